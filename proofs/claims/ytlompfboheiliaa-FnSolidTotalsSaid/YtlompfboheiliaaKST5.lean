/- The row of FnSolidTotals, with what it needs: text 6 of 12. -/
import Derived.Test.YtlompfboheiliaaKST4
set_option maxHeartbeats 8000000
set_option maxRecDepth 100000
section
namespace Go.Proofs.Ytlompfboheiliaa.F
open Go.RowKit Go.Proofs.YtlompfboheiliaaW.PrintWords Go.Proofs.YtlompfboheiliaaW.PrintLast Go.Proofs.YtlompfboheiliaaW.PrintMore
attribute [local go_sem] max2_int min2_int max_two min_two max_three min_three max_four min_four
set_option linter.unusedVariables false
set_option linter.unusedSimpArgs false
abbrev spec_l09All.a3 (l : List S43) (i : Int) : Value := .agg #[.int .i64 ((rd_T43 l i).f0), .int .i64 ((rd_T43 l i).f1), .int .i64 ((rd_T43 l i).f2)]
abbrev spec_l09All.c3 (w : World) (a : Addr) (i : Int) (l : List S43) (R : Prop) : Prop := w.cell? (a.add (i.toNat * 3)) = some (.int .i64 ((rd_T43 l i).f0)) ∧ w.cell? ⟨(a.add (i.toNat * 3)).block, (a.add (i.toNat * 3)).off + 1, none⟩ = some (.int .i64 ((rd_T43 l i).f1)) ∧ w.cell? ⟨(a.add (i.toNat * 3)).block, (a.add (i.toNat * 3)).off + 2, none⟩ = some (.int .i64 ((rd_T43 l i).f2)) ∧ R
abbrev spec_l09All.d3 (w : World) (a : Addr) (i : Int) (l : List S43) : Prop := w.cell? (a.add (i.toNat * 3)) = some (.int .i64 ((rd_T43 l i).f0)) ∧ w.cell? ⟨(a.add (i.toNat * 3)).block, (a.add (i.toNat * 3)).off + 1, none⟩ = some (.int .i64 ((rd_T43 l i).f1)) ∧ w.cell? ⟨(a.add (i.toNat * 3)).block, (a.add (i.toNat * 3)).off + 2, none⟩ = some (.int .i64 ((rd_T43 l i).f2))
theorem spec_l09All.calls (k : Nat) (a0 : Int) (r : List (List (S43))) (w : World) (h : spec_l09All.f k a0 = some r) :
  Calls Try.prog 16 #[.int .i64 a0] w fun e w' => ∃ v0_ : Value, e = .returned (v0_) ∧ Kd.V (Kd.slice 43 k43) 40 w' w.heap.size (fun k_ => (w.heap.size ≤ k_)) v0_ r ∧ Below w.heap.size w w' := by
 have hu43 := Try.underlying43
 have HB := aM (Below.refl w.heap.size w)
 have H : (spec_l09All.l0 k a0 (([(([(⟨0, 0, 0⟩ : S43)] : List (S43)))] : List (List (S43)))) 1) = some r := h
 clear h
 obtain ⟨y245, hy245⟩ : ∃ y_ : List (S43), y_ = (([(⟨0, 0, 0⟩ : S43)] : List (S43))) := ⟨_, rfl⟩
 replace H : (spec_l09All.l0 k a0 (([y245] : List (List (S43)))) 1) = some r := zy H hy245
 have Ny245 := aM hy245
 clear hy245
 obtain ⟨y248, hy248⟩ : ∃ y_ : List (List (S43)), y_ = (([y245] : List (List (S43)))) := ⟨_, rfl⟩
 replace H : (spec_l09All.l0 k a0 y248 1) = some r := zy H hy248
 have Ny248 := aM hy248
 clear hy248
 have H' := aM H
 clear H
 go_enter Try.func16, Try.ntmps16
 go_wp2_with (first | ((with_reducible refine gate_dst (N := 11) rfl ?_); refine Kd.R_lit k43 _ 43 ?hg (N := 11) ?hd (xs := ([(⟨0, 0, 0⟩ : S43)] : List (S43))) (inner := [.int .i64 0, .int .i64 0, .int .i64 0]) (ok := fun _ => True) (okp := fun _ => True) ?hr ?hp (fun _ hk => hk) trivial (Below.refl _ _) (Nat.le_refl _) (by simp) ?_; (case hd => rfl); (case hg => rfl); (case hr => first | (go_simp; done) | (go_simp; rfl)); (case hp => exact (Reps.c3 (show Kd.M k43 _ _ _ (⟨0, 0, 0⟩ : S43) [.int .i64 0, .int .i64 0, .int .i64 0] from (k43_mkM _ _ _ (⟨0, 0, 0⟩ : S43) )) (Reps.none _ _))); intro v246 w2 ho3 hb hg_ hnew_; clear hg_ hnew_; (first | rw [← Ny245.out] at ho3 | (simp only [Int.reduceToNat] at ho3; rw [← Ny245.out] at ho3)); have n0_ := aM (Kd.R_lower (Kd.R_newM (M := fun k_ => (w.heap.size ≤ k_)) ho3 (below_size zb) (fun k_ h_ => h_)) (below_size zb)); have n1_ := aM (below_step zb hb); clear HB; have HO247 := n0_; have HB := n1_; clear n0_ n1_ hb ho3; obtain ⟨Ao4, co4, eo4⟩ := Kd.R_slice HO247.out; subst eo4) | ((with_reducible refine gate_dst (N := 12) rfl ?_); refine Kd.N_lit (Kd.slice 43 k43) _ 40 ?hg (N' := 12) ?hd (xs := ([y245] : List (List (S43)))) (inner := [.slice Ao4 y245.length co4]) (ok := (fun k_ => (w.heap.size ≤ k_))) (okp := (fun k_ => (w.heap.size ≤ k_))) ?hr ?hp (fun _ hk => hk) ((show ∀ k_, w2.heap.size ≤ k_ → (fun k_ => (w.heap.size ≤ k_)) k_ from fun k_ hk => (Nat.le_trans (below_size zb) hk)) _ (Nat.le_refl _)) (Below.refl _ _) (Nat.le_refl _) (by simp) ?_; (case hd => rfl); (case hg => rfl); (case hr => first | (go_simp; done) | (go_simp; rfl)); (case hp => exact (Reps.one (show Kd.FK (Kd.slice 43 k43) _ _ y245 [.slice Ao4 y245.length co4] from (Kd.FK_slice_mk (Kd.R_reads' (Kd.R_mono (ok' := (fun k_ => (w.heap.size ≤ k_))) (HO247.out) (fun k_ hk => hk.1))).2.1 (Kd.R_F (Kd.R_mono (ok' := (fun k_ => (w.heap.size ≤ k_))) (HO247.out) (fun k_ hk => hk.1))))) (Reps.none _ _))); intro v249 w5 ho6 hb hg_ hnew_; clear hg_ hnew_; (first | rw [← Ny248.out] at ho6 | (simp only [Int.reduceToNat] at ho6; rw [← Ny248.out] at ho6)); have n0_ := aM (Kd.N_lower ho6 (below_size zb)); have n1_ := aM (below_step zb hb); clear HB HO247; have HO250 := n0_; have HB := n1_; clear n0_ n1_; clear hb ho6))
 go_loopg [3, 4] k (fun kq v3 v4 w' => ∃ (x3_1 : List (List (S43))) (x4_1 : Int), v4 = .int .i64 x4_1 ∧ Aside0 (spec_l09All.l0 kq a0 x3_1 x4_1 = some r) ∧ Aside0 (kq ≤ k) ∧ Aside0 (Kd.V (Kd.slice 43 k43) 40 w' w.heap.size (fun k_ => (w.heap.size ≤ k_)) v3 x3_1) ∧ Aside0 (Below w.heap.size w w'))
 case atStart => exact ⟨(y248), (1), zr, H', ⟨Nat.le_refl _⟩, ⟨Kd.N_V (mN_ HO250.out)⟩, ⟨zb⟩⟩
 case round =>
  clear H'
  try clear c1
  try clear p2
  try clear c3
  obtain ⟨x3_1, x4_1, rfl, HA, HK1, HO_3, HB⟩ := hrel
  cases gk with
  | zero => exact absurd HA.out (by simp [spec_l09All.l0])
  | succ k1 =>
   have H := HA.out
   clear HA
   simp only [spec_l09All.l0] at H
   by_cases c7 : x4_1 < a0
   rotate_left
   ·rw [if_neg c7] at H
    have c7b0 : decide (x4_1 < a0) = false := decide_eq_false c7
    clear c7
    obtain rfl := Option.some.inj H
    go_wp2
    go_ret
    exact ⟨_, zw, mV_ HO_3.out, zb⟩
   rw [if_pos c7] at H
   have c7b0 : decide (x4_1 < a0) = true := decide_eq_true c7
   clear c7
   obtain ⟨y251, hy251⟩ : ∃ y_ : List (List (S43)), y_ = (([] : List (List (S43)))) := ⟨_, rfl⟩
   replace H : (spec_l09All.l1 k1 a0 x3_1 x4_1 y251 0) = some r := zy H hy251
   have Ny251 := aM hy251
   clear hy251
   have H' := aM H
   clear H
   go_wp2_with (first | ((with_reducible refine gate_dst (N := 18) rfl ?_); refine Kd.N_lit (Kd.slice 43 k43) _ 40 ?hg (N' := 18) ?hd (xs := ([] : List (List (S43)))) (inner := []) (ok := (fun k_ => (w.heap.size ≤ k_))) (okp := (fun k_ => (w.heap.size ≤ k_))) ?hr ?hp (fun _ hk => hk) ((show ∀ k_, wr.heap.size ≤ k_ → (fun k_ => (w.heap.size ≤ k_)) k_ from fun k_ hk => (Nat.le_trans (below_size zb) hk)) _ (Nat.le_refl _)) (Below.refl _ _) (Nat.le_refl _) (by simp) ?_; (case hd => rfl); (case hg => rfl); (case hr => first | (go_simp; done) | (go_simp; rfl)); (case hp => exact (Reps.none _ _)); intro v252 w8 ho9 hb hg_ hnew_; clear hg_ hnew_; (first | rw [← Ny251.out] at ho9 | (simp only [Int.reduceToNat] at ho9; rw [← Ny251.out] at ho9)); have n0_ := aM (Kd.V_elder' (mV_ HO_3.out) (by first | exact Kd.N_base ho9 | exact Kd.S_base ho9 | exact Kd.R_base ho9) hb); have n1_ := aM (Kd.N_lower ho9 (below_size zb)); have n2_ := aM (below_step zb hb); clear HO_3 HB; have HO_3 := n0_; have HO253 := n1_; have HB := n2_; clear n0_ n1_ n2_; clear hb ho9))
   go_loopg [5, 6] k1 (fun kq v5 v6 w' => ∃ (x5_2 : List (List (S43))) (x6_2 : Int), v6 = .int .i64 x6_2 ∧ Aside0 (spec_l09All.l1 kq a0 x3_1 x4_1 x5_2 x6_2 = some r) ∧ Aside0 (kq ≤ k1) ∧ Aside0 (Kd.V (Kd.slice 43 k43) 40 w' w.heap.size (fun k_ => (w.heap.size ≤ k_)) u3 x3_1) ∧ Aside0 (Kd.V (Kd.slice 43 k43) 40 w' w.heap.size (fun k_ => (w.heap.size ≤ k_)) v5 x5_2) ∧ Aside0 (Below w.heap.size w w'))
   case atStart => exact ⟨(y251), (0), zr, H', ⟨Nat.le_refl _⟩, ⟨zd23 HO_3.out⟩, ⟨Kd.N_V (mN_ HO253.out)⟩, ⟨zb⟩⟩
   case round =>
    clear H'
    try clear c1
    try clear p2
    try clear c3
    try clear c7
    try clear c7b0
    try clear p2
    obtain ⟨x5_2, x6_2, rfl, HA, HK2, HO_3, HO_5, HB⟩ := hrel
    cases gk with
    | zero => exact absurd HA.out (by simp [spec_l09All.l1])
    | succ k2 =>
     have H := HA.out
     clear HA
     simp only [spec_l09All.l1] at H
     by_cases c10 : x6_2 < (x3_1.length : Int)
     rotate_left
     ·rw [if_neg c10] at H
      have c10b0 : decide (x6_2 < (x3_1.length : Int)) = false := decide_eq_false c10
      clear c10
      have H' := aM H
      clear H
      obtain ⟨Ao71, co71, eo71⟩ := Kd.V_slice HO_3.out
      subst eo71
      go_wp2
      go_roundg k2
      case measure => have := HK1.out; have := HK2.out; omega
      case rel => exact ⟨(x5_2), (wrap64 (x4_1 + 1)), zr, H', ⟨by have := HK1.out; have := HK2.out; omega⟩, ⟨mV_ HO_5.out⟩, ⟨zb⟩⟩
     rw [if_pos c10] at H
     have c10b0 : decide (x6_2 < (x3_1.length : Int)) = true := decide_eq_true c10
     clear c10
     have H' := aM H
     clear H
     obtain ⟨Ao11, co11, eo11⟩ := Kd.V_slice HO_3.out
     subst eo11
     go_wp2
     go_loopg [5, 7] k2 (fun kq v5 v7 w' => ∃ (x5_3 : List (List (S43))) (x7_3 : Int), v7 = .int .i64 x7_3 ∧ Aside0 (spec_l09All.l2 kq a0 x3_1 x4_1 x5_3 x6_2 x7_3 = some r) ∧ Aside0 (kq ≤ k2) ∧ Aside0 (Kd.V (Kd.slice 43 k43) 40 w' w.heap.size (fun k_ => (w.heap.size ≤ k_)) (.slice Ao11 x3_1.length co11) x3_1) ∧ Aside0 (Kd.V (Kd.slice 43 k43) 40 w' w.heap.size (fun k_ => (w.heap.size ≤ k_)) v5 x5_3) ∧ Aside0 (Below w.heap.size w w'))
     case atStart => exact ⟨(x5_2), (0), zr, H', ⟨Nat.le_refl _⟩, ⟨mV_ HO_3.out⟩, ⟨mV_ HO_5.out⟩, ⟨zb⟩⟩
     case round =>
      clear H'
      try clear c1
      try clear p2
      try clear c3
      try clear c7
      try clear c7b0
      try clear c10
      try clear c10b0
      try clear p2
      obtain ⟨x5_3, x7_3, rfl, HA, HK3, HO_3, HO_5, HB⟩ := hrel
      cases gk with
      | zero => exact absurd HA.out (by simp [spec_l09All.l2])
      | succ k3 =>
       have H := HA.out
       clear HA
       simp only [spec_l09All.l2] at H
       by_cases c12 : 0 ≤ x6_2
       rotate_left
       ·rw [if_neg c12] at H
        exact absurd H (by simp)
       rw [if_pos c12] at H
       have c12b0 : decide (0 ≤ x6_2) = true := decide_eq_true c12
       clear c12
       by_cases c13 : x6_2 < (x3_1.length : Int)
       rotate_left
       ·rw [if_neg c13] at H
        exact absurd H (by simp)
       rw [if_pos c13] at H
       have c13b0 : decide (x6_2 < (x3_1.length : Int)) = true := decide_eq_true c13
       clear c13
       by_cases c14 : x7_3 < ((rd_L2 x3_1 x6_2).length : Int)
       rotate_left
       ·rw [if_neg c14] at H
        have c14b0 : decide (x7_3 < ((rd_L2 x3_1 x6_2).length : Int)) = false := decide_eq_false c14
        clear c14
        have H' := aM H
        clear H
        have p254 : 0 ≤ (x6_2 : Int) := of_decide_eq_true za
        have q254 : x6_2 < (x3_1.length : Int) := of_decide_eq_true za
        obtain ⟨ad254, A254_0, c254_0, e254, hx254_0, hl254_0, hi254_0⟩ := at_L2 (Kd.V_reads' HO_3.out).2.2 x6_2 p254 q254
        cases e254
        obtain ⟨ce254, hce254, hMe254, hcc254⟩ := Kd.V_get HO_3.out [] x6_2 p254 (by first | exact q254 | exact of_decide_eq_true za | (have e_ := (Kd.V_reads' HO_3.out).1; omega))
        obtain ⟨ua254_0, uc254_0, rfl, ul254_0, ge254_0⟩ := Kd.FK_slice_open hMe254
        have hv254_0 := hcc254 0 _ rfl
        rw [Nat.add_zero, show ((Kd.slice 43 k43)).sz = 1 from rfl, Nat.mul_one] at hv254_0
        replace hv254_0 := Option.some.inj (hv254_0.symm.trans hx254_0)
        injection hv254_0 with hva_ hvn_ hvc_
        rw [hva_] at ge254_0
        rw [hvc_] at ul254_0
        have HL254_0 := aM (show Kd.V k43 43 _ w.heap.size _ _ (rd_L2 x3_1 x6_2) from Kd.V_mk ul254_0 ge254_0)
        clear hva_ hvn_ hvc_ ge254_0 ul254_0
        clear hcc254 hce254
        have HR254_0 := aM hi254_0
        have HC254_0 := aM hl254_0
        clear hi254_0 hl254_0
        replace p254 := eq_true p254
        replace q254 := eq_true q254
        have PV254 := aM (lt9_ (of_eq_true p254) (of_eq_true q254))
        go_wp2
        go_roundg k3
        case measure => have := HK1.out; have := HK2.out; have := HK3.out; omega
        case rel => exact ⟨(x5_3), (wrap64 (x6_2 + 1)), zr, H', ⟨by have := HK1.out; have := HK2.out; have := HK3.out; omega⟩, ⟨mV_ HO_3.out⟩, ⟨mV_ HO_5.out⟩, ⟨zb⟩⟩
       rw [if_pos c14] at H
       have c14b0 : decide (x7_3 < ((rd_L2 x3_1 x6_2).length : Int)) = true := decide_eq_true c14
       clear c14
       have H' := aM H
       clear H
       have p254 : 0 ≤ (x6_2 : Int) := of_decide_eq_true za
       have q254 : x6_2 < (x3_1.length : Int) := of_decide_eq_true za
       obtain ⟨ad254, A254_0, c254_0, e254, hx254_0, hl254_0, hi254_0⟩ := at_L2 (Kd.V_reads' HO_3.out).2.2 x6_2 p254 q254
       cases e254
       obtain ⟨ce254, hce254, hMe254, hcc254⟩ := Kd.V_get HO_3.out [] x6_2 p254 (by first | exact q254 | exact of_decide_eq_true za | (have e_ := (Kd.V_reads' HO_3.out).1; omega))
       obtain ⟨ua254_0, uc254_0, rfl, ul254_0, ge254_0⟩ := Kd.FK_slice_open hMe254
       have hv254_0 := hcc254 0 _ rfl
       rw [Nat.add_zero, show ((Kd.slice 43 k43)).sz = 1 from rfl, Nat.mul_one] at hv254_0
       replace hv254_0 := Option.some.inj (hv254_0.symm.trans hx254_0)
       injection hv254_0 with hva_ hvn_ hvc_
       rw [hva_] at ge254_0
       rw [hvc_] at ul254_0
       have HL254_0 := aM (show Kd.V k43 43 _ w.heap.size _ _ (rd_L2 x3_1 x6_2) from Kd.V_mk ul254_0 ge254_0)
       clear hva_ hvn_ hvc_ ge254_0 ul254_0
       clear hcc254 hce254
       have HR254_0 := aM hi254_0
       have HC254_0 := aM hl254_0
       clear hi254_0 hl254_0
       replace p254 := eq_true p254
       replace q254 := eq_true q254
       have PV254 := aM (lt9_ (of_eq_true p254) (of_eq_true q254))
       go_wp2
       go_loopg [5, 8] k3 (fun kq v5 v8 w' => ∃ (x5_4 : List (List (S43))) (x8_4 : Int), v8 = .int .i64 x8_4 ∧ Aside0 (spec_l09All.l3 kq a0 x3_1 x4_1 x5_4 x6_2 x7_3 x8_4 = some r) ∧ Aside0 (kq ≤ k3) ∧ Aside0 (Kd.V (Kd.slice 43 k43) 40 w' w.heap.size (fun k_ => (w.heap.size ≤ k_)) (.slice (some ad254) x3_1.length co11) x3_1) ∧ Aside0 (Kd.V (Kd.slice 43 k43) 40 w' w.heap.size (fun k_ => (w.heap.size ≤ k_)) v5 x5_4) ∧ Aside0 (Below w.heap.size w w'))
       case atStart => exact ⟨(x5_3), (0), zr, H', ⟨Nat.le_refl _⟩, ⟨mV_ HO_3.out⟩, ⟨mV_ HO_5.out⟩, ⟨zb⟩⟩
       case round =>
        clear H'
        try clear c1
        try clear c2
        try clear p2
        try clear q2
        try clear hx2
        try clear c3
        try clear c7
        try clear c7b0
        try clear c10
        try clear c10b0
        try clear c12
        try clear c12b0
        try clear c13
        try clear c13b0
        try clear c14
        try clear c14b0
        try clear hx254_0
        try clear p2
        try clear p254
        try clear q254
        obtain ⟨x5_4, x8_4, rfl, HA, HK4, HO_3, HO_5, HB⟩ := hrel
        cases gk with
        | zero => exact absurd HA.out (by simp [spec_l09All.l3])
        | succ k4 =>
         have H := HA.out
         clear HA
         simp only [spec_l09All.l3] at H
         by_cases c15 : x8_4 < 6
         rotate_left
         ·rw [if_neg c15] at H
          have c15b0 : decide (x8_4 < 6) = false := decide_eq_false c15
          clear c15
          have H' := aM H
          clear H
          go_wp2
          go_roundg k4
          case measure => have := HK1.out; have := HK2.out; have := HK3.out; have := HK4.out; omega
          case rel => exact ⟨(x5_4), (wrap64 (x7_3 + 1)), zr, H', ⟨by have := HK1.out; have := HK2.out; have := HK3.out; have := HK4.out; omega⟩, ⟨mV_ HO_3.out⟩, ⟨mV_ HO_5.out⟩, ⟨zb⟩⟩
         rw [if_pos c15] at H
         have c15b0 : decide (x8_4 < 6) = true := decide_eq_true c15
         clear c15
         by_cases c16 : 0 ≤ x6_2
         rotate_left
         ·rw [if_neg c16] at H
          exact absurd H (by simp)
         rw [if_pos c16] at H
         have c16b0 : decide (0 ≤ x6_2) = true := decide_eq_true c16
         clear c16
         by_cases c17 : x6_2 < (x3_1.length : Int)
         rotate_left
         ·rw [if_neg c17] at H
          exact absurd H (by simp)
         rw [if_pos c17] at H
         have c17b0 : decide (x6_2 < (x3_1.length : Int)) = true := decide_eq_true c17
         clear c17
         by_cases c18 : 0 ≤ x7_3
         rotate_left
         ·rw [if_neg c18] at H
          exact absurd H (by simp)
         rw [if_pos c18] at H
         have c18b0 : decide (0 ≤ x7_3) = true := decide_eq_true c18
         clear c18
         by_cases c19 : x7_3 < ((rd_L2 x3_1 x6_2).length : Int)
         rotate_left
         ·rw [if_neg c19] at H
          exact absurd H (by simp)
         rw [if_pos c19] at H
         have c19b0 : decide (x7_3 < ((rd_L2 x3_1 x6_2).length : Int)) = true := decide_eq_true c19
         clear c19
         replace H := Option.bind_eq_some_iff.mp H
         obtain ⟨t257, A200, H⟩ := H
         replace H : (if 0 ≤ x8_4 then (if x8_4 < (t257.length : Int) then ((spec_l09Add.f ((rd_T43 (rd_L2 x3_1 x6_2) x7_3).f0) ((rd_T43 (rd_L2 x3_1 x6_2) x7_3).f1) ((rd_T43 (rd_L2 x3_1 x6_2) x7_3).f2) ((rd_T43 t257 x8_4).f0) ((rd_T43 t257 x8_4).f1) ((rd_T43 t257 x8_4).f2)).bind fun bt261 => ((spec_l09Index.f k4 (rd_L2 x3_1 x6_2) bt261.1 bt261.2.1 bt261.2.2).bind fun t266 => (if t266 < 0 then ((some (([] : List (S43)) : List (S43))).bind fun y267 => (if y267.length + (rd_L2 x3_1 x6_2).length < 5864062014805 then ((some (y267 ++ (rd_L2 x3_1 x6_2) : List (S43))).bind fun y271 => ((some (([(⟨bt261.1, bt261.2.1, bt261.2.2⟩ : S43)] : List (S43)) : List (S43))).bind fun y274 => (if y271.length + y274.length < 5864062014805 then ((spec_l09Sort.f k4 (y271 ++ y274)).bind fun t280 => ((spec_l09Normal.f k4 t280).bind fun t283 => ((spec_l09Insert.f k4 x5_4 t283).bind fun t286 => (spec_l09All.l3 k4 a0 x3_1 x4_1 t286 x6_2 x7_3 (wrap64 (x8_4 + 1)))))) else (none)))) else (none))) else (spec_l09All.l3 k4 a0 x3_1 x4_1 x5_4 x6_2 x7_3 (wrap64 (x8_4 + 1)))))) else (none)) else (none)) = some r := H
         have A20 := aM A200
         clear A200
         by_cases c21 : 0 ≤ x8_4
         rotate_left
         ·rw [if_neg c21] at H
          exact absurd H (by simp)
         rw [if_pos c21] at H
         have c21b0 : decide (0 ≤ x8_4) = true := decide_eq_true c21
         clear c21
         by_cases c22 : x8_4 < (t257.length : Int)
         rotate_left
         ·rw [if_neg c22] at H
          exact absurd H (by simp)
         rw [if_pos c22] at H
         have c22b0 : decide (x8_4 < (t257.length : Int)) = true := decide_eq_true c22
         clear c22
         replace H := Option.bind_eq_some_iff.mp H
         obtain ⟨⟨t261, t262, t263⟩, A230, H⟩ := H
         replace H : ((spec_l09Index.f k4 (rd_L2 x3_1 x6_2) t261 t262 t263).bind fun t266 => (if t266 < 0 then ((some (([] : List (S43)) : List (S43))).bind fun y267 => (if y267.length + (rd_L2 x3_1 x6_2).length < 5864062014805 then ((some (y267 ++ (rd_L2 x3_1 x6_2) : List (S43))).bind fun y271 => ((some (([(⟨t261, t262, t263⟩ : S43)] : List (S43)) : List (S43))).bind fun y274 => (if y271.length + y274.length < 5864062014805 then ((spec_l09Sort.f k4 (y271 ++ y274)).bind fun t280 => ((spec_l09Normal.f k4 t280).bind fun t283 => ((spec_l09Insert.f k4 x5_4 t283).bind fun t286 => (spec_l09All.l3 k4 a0 x3_1 x4_1 t286 x6_2 x7_3 (wrap64 (x8_4 + 1)))))) else (none)))) else (none))) else (spec_l09All.l3 k4 a0 x3_1 x4_1 x5_4 x6_2 x7_3 (wrap64 (x8_4 + 1))))) = some r := H
         have A23 := aM A230
         clear A230
         replace H := Option.bind_eq_some_iff.mp H
         obtain ⟨t266, A240, H⟩ := H
         replace H : (if t266 < 0 then ((some (([] : List (S43)) : List (S43))).bind fun y267 => (if y267.length + (rd_L2 x3_1 x6_2).length < 5864062014805 then ((some (y267 ++ (rd_L2 x3_1 x6_2) : List (S43))).bind fun y271 => ((some (([(⟨t261, t262, t263⟩ : S43)] : List (S43)) : List (S43))).bind fun y274 => (if y271.length + y274.length < 5864062014805 then ((spec_l09Sort.f k4 (y271 ++ y274)).bind fun t280 => ((spec_l09Normal.f k4 t280).bind fun t283 => ((spec_l09Insert.f k4 x5_4 t283).bind fun t286 => (spec_l09All.l3 k4 a0 x3_1 x4_1 t286 x6_2 x7_3 (wrap64 (x8_4 + 1)))))) else (none)))) else (none))) else (spec_l09All.l3 k4 a0 x3_1 x4_1 x5_4 x6_2 x7_3 (wrap64 (x8_4 + 1)))) = some r := H
         have A24 := aM A240
         clear A240
         by_cases c25 : t266 < 0
         rotate_left
         ·rw [if_neg c25] at H
          have c25b0 : decide (t266 < 0) = false := decide_eq_false c25
          clear c25
          have H' := aM H
          clear H
          try go_wp2
          have n0_ := aM (Kd.V_drew HO_3.out)
          have n1_ := aM (Kd.V_drew HO_5.out)
          have n2_ := aM (below_drew1 HB.out)
          clear HO_3
          clear HO_5
          clear HB
          have HO_3 := n0_
          have HO_5 := n1_
          have HB := n2_
          clear n0_ n1_ n2_
          have p255 : 0 ≤ (x6_2 : Int) := of_decide_eq_true za
          have q255 : x6_2 < (x3_1.length : Int) := of_decide_eq_true za
          obtain ⟨ad255, A255_0, c255_0, e255, hx255_0, hl255_0, hi255_0⟩ := at_L2 (Kd.V_reads' HO_3.out).2.2 x6_2 p255 q255
          obtain rfl : ad254 = ad255 := (by injection e255)
          obtain ⟨ce255, hce255, hMe255, hcc255⟩ := Kd.V_get HO_3.out [] x6_2 p255 (by first | exact q255 | exact of_decide_eq_true za | (have e_ := (Kd.V_reads' HO_3.out).1; omega))
          obtain ⟨ua255_0, uc255_0, rfl, ul255_0, ge255_0⟩ := Kd.FK_slice_open hMe255
          have hv255_0 := hcc255 0 _ rfl
          rw [Nat.add_zero, show ((Kd.slice 43 k43)).sz = 1 from rfl, Nat.mul_one] at hv255_0
          replace hv255_0 := Option.some.inj (hv255_0.symm.trans hx255_0)
          injection hv255_0 with hva_ hvn_ hvc_
          rw [hva_] at ge255_0
          rw [hvc_] at ul255_0
          have HL255_0 := aM (show Kd.V k43 43 _ w.heap.size _ _ (rd_L2 x3_1 x6_2) from Kd.V_mk ul255_0 ge255_0)
          clear hva_ hvn_ hvc_ ge255_0 ul255_0
          clear hcc255 hce255
          have HR255_0 := aM hi255_0
          have HC255_0 := aM hl255_0
          clear hi255_0 hl255_0
          replace p255 := eq_true p255
          replace q255 := eq_true q255
          have p256 : 0 ≤ (x7_3 : Int) := of_decide_eq_true za
          have q256 : x7_3 < ((rd_L2 x3_1 x6_2).length : Int) := of_decide_eq_true za
          obtain ⟨ad256, e256, hx256_0, hx256_1, hx256_2⟩ := at_T43 (mQ_ HR255_0.out) x7_3 p256 q256
          cases e256
          replace p256 := eq_true p256
          replace q256 := eq_true q256
          have PV256 := aM (lt9_ (of_eq_true p256) (of_eq_true q256))
          refine start_ (n := 14) (S := fun w' => w'.cell? (ad254.add (x6_2).toNat) = some (.slice (some ad256) (rd_L2 x3_1 x6_2).length c255_0) ∧ w'.cell? (ad256.add ((x7_3).toNat * 3)) = some (.int .i64 ((rd_T43 (rd_L2 x3_1 x6_2) x7_3).f0)) ∧ w'.cell? ⟨(ad256.add ((x7_3).toNat * 3)).block, (ad256.add ((x7_3).toNat * 3)).off + 1, none⟩ = some (.int .i64 ((rd_T43 (rd_L2 x3_1 x6_2) x7_3).f1)) ∧ w'.cell? ⟨(ad256.add ((x7_3).toNat * 3)).block, (ad256.add ((x7_3).toNat * 3)).off + 2, none⟩ = some (.int .i64 ((rd_T43 (rd_L2 x3_1 x6_2) x7_3).f2))) (ds := []) zA70 (by kernel_rfl) rfl rfl ⟨hx255_0, hx256_0, hx256_1, hx256_2⟩ (fun hHeld => ?_); refine with_tabW spec_l09All.tab15 spec_l09All.bits15 (fun HT_ HW_ => ?_)
          generalize wr.drew = w59 at HO_3 HO_5 HB HL255_0 HR255_0 hx255_0 hx256_0 hx256_1 hx256_2 hHeld ⊢
          refine zp 0 (some 38) ?_ zA71 rfl rfl (Or.inl ⟨by rfl, ?_⟩) ?_ ?_ ?_
          rotate_left
          ·intro w'
           go_simp
           with_reducible rfl
          rotate_left
          ·simp only [Act.put, xA, xB, xC, i64_w, i32_w]
           rfl
          refine zp 1 (some 39) ?_ zA72 rfl rfl (Or.inl ⟨by rfl, ?_⟩) ?_ ?_ ?_
          rotate_left
          ·intro w'
           go_simp
           with_reducible rfl
          rotate_left
          ·simp only [Act.put, xA, xB, xC, i64_w, i32_w]
           rfl
          refine zp 2 (some 40) ?_ zA73 rfl rfl (Or.inl ⟨by rfl, ?_⟩) ?_ ?_ ?_
          rotate_left
          ·intro w'
           go_simp
           with_reducible rfl
          rotate_left
          ·simp only [Act.put, xA, xB, xC, i64_w, i32_w]
           rfl
          refine zp 4 (some 42) ?_ zA74 rfl rfl (Or.inl ⟨by rfl, ?_⟩) ?_ ?_ ?_
          rotate_left
          ·intro w'
           go_simp
           with_reducible rfl
          rotate_left
          ·simp only [Act.put, xA, xB, xC, i64_w, i32_w]
           rfl
          refine zp 8 (some 46) ?_ zA75 rfl rfl (Or.inl ⟨by rfl, ?_⟩) ?_ ?_ ?_
          rotate_left
          ·intro w'
           go_simp
           with_reducible rfl
          rotate_left
          ·simp only [Act.put, xA, xB, xC, i64_w, i32_w]
           rfl
          refine zu 3 (some 41) ?_ zA76 rfl rfl (Or.inl ⟨by rfl, ?_⟩) hHeld ?_ ?_ ?_
          rotate_left
          ·rintro w' ⟨s0, s1, s2, s3⟩
           go_simp
           with_reducible rfl
          rotate_left
          ·simp only [Act.put, xA, xB, xC, i64_w, i32_w]
           rfl
          refine zp 5 (some 43) ?_ zA77 rfl rfl (Or.inl ⟨by rfl, ?_⟩) ?_ ?_ ?_
          rotate_left
          ·intro w'
           go_simp
           with_reducible rfl
          rotate_left
          ·simp only [Act.put, xA, xB, xC, i64_w, i32_w]
           rfl
          refine zu 6 (some 44) ?_ zA78 rfl rfl (Or.inl ⟨by rfl, ?_⟩) hHeld ?_ ?_ ?_
          rotate_left
          ·rintro w' ⟨s0, s1, s2, s3⟩
           go_simp
           with_reducible rfl
          rotate_left
          ·simp only [Act.put, xA, xB, xC, i64_w, i32_w]
           rfl
          refine join9_ (σ := (Value × Nat) × Addr) (fun s_ w' => w'.cell? (ad254.add (x6_2).toNat) = some (.slice (some ad256) (rd_L2 x3_1 x6_2).length c255_0) ∧ w'.cell? (ad256.add ((x7_3).toNat * 3)) = some (.int .i64 ((rd_T43 (rd_L2 x3_1 x6_2) x7_3).f0)) ∧ w'.cell? ⟨(ad256.add ((x7_3).toNat * 3)).block, (ad256.add ((x7_3).toNat * 3)).off + 1, none⟩ = some (.int .i64 ((rd_T43 (rd_L2 x3_1 x6_2) x7_3).f1)) ∧ w'.cell? ⟨(ad256.add ((x7_3).toNat * 3)).block, (ad256.add ((x7_3).toNat * 3)).off + 2, none⟩ = some (.int .i64 ((rd_T43 (rd_L2 x3_1 x6_2) x7_3).f2)) ∧ (spec_l09All.d3 w' (s_.2) x8_4 t257)) 1 zA79 (fun s_ => [(45, s_.1.1), (49, .agg #[.int .i64 t261, .int .i64 t262, .int .i64 t263]), (9, .pointer (some ⟨s_.1.2, 0, none⟩)), (47, .pointer (some (s_.2.add ((x8_4).toNat * 3)))), (48, spec_l09All.a3 t257 x8_4)]) (fun s_ w' => (w'.cell? (ad254.add (x6_2).toNat) = some (.slice (some ad256) (rd_L2 x3_1 x6_2).length c255_0) ∧ w'.cell? (ad256.add ((x7_3).toNat * 3)) = some (.int .i64 ((rd_T43 (rd_L2 x3_1 x6_2) x7_3).f0)) ∧ w'.cell? ⟨(ad256.add ((x7_3).toNat * 3)).block, (ad256.add ((x7_3).toNat * 3)).off + 1, none⟩ = some (.int .i64 ((rd_T43 (rd_L2 x3_1 x6_2) x7_3).f1)) ∧ w'.cell? ⟨(ad256.add ((x7_3).toNat * 3)).block, (ad256.add ((x7_3).toNat * 3)).off + 2, none⟩ = some (.int .i64 ((rd_T43 (rd_L2 x3_1 x6_2) x7_3).f2)) ∧ (spec_l09All.d3 w' (s_.2) x8_4 t257)) ∧ (Kd.V k43 43 w' w.heap.size (fun k_ => (w.heap.size ≤ k_) ∧ some k_ ≠ (s_.1.1 : Value).ownBlock ∧ k_ ≠ s_.1.2) (.slice (some ad256) (rd_L2 x3_1 x6_2).length c255_0) (rd_L2 x3_1 x6_2)) ∧ (Kd.R k43 43 w' w.heap.size (fun k_ => (w.heap.size ≤ k_) ∧ k_ ≠ s_.1.2) s_.1.1 t257) ∧ (Kd.V (Kd.slice 43 k43) 40 w' w.heap.size (fun k_ => (w.heap.size ≤ k_) ∧ some k_ ≠ (s_.1.1 : Value).ownBlock ∧ k_ ≠ s_.1.2) (.slice (some ad254) x3_1.length co11) x3_1) ∧ (Kd.V (Kd.slice 43 k43) 40 w' w.heap.size (fun k_ => (w.heap.size ≤ k_) ∧ some k_ ≠ (s_.1.1 : Value).ownBlock ∧ k_ ≠ s_.1.2) u5 x5_4) ∧ (w'.heap[s_.1.2]? = some (.cells #[.int .i64 0, .int .i64 0, .int .i64 0] 43 (0, 0))) ∧ (w.heap.size ≤ s_.1.2) ∧ (w.heap.size ≤ s_.1.2) ∧ (Below w.heap.size w w') ∧ (∃ c9_, s_.1.1 = Value.slice (some s_.2) t257.length c9_)) ?_ ?_
          rotate_left
          ·intro hCont
           refine two_ (i := 7) (j := 12) (Ni := some 45) (Nj := some 9) zA80 zA81 rfl rfl rfl rfl (two_of HT_.out (by kernel_rfl)) (by decide) (by decide) (fun K hK => ?_) (fun K hK => ?_)
           ·skip
            refine goes_ Try.func26 (by kernel_rfl) rfl #[] (by rfl) rfl rfl zm ?_
            with_reducible refine (spec_l09Steps.calls  t257 _ A20.out).mono ?_
            rintro e w60 ⟨v258, rfl, ho0, hb⟩
            have HS0_ := zk hb (hHeld.1)
            have HS1_ := zk hb (hHeld.2.1)
            have HS2_ := zk hb (hHeld.2.2.1)
            have HS3_ := zk hb (hHeld.2.2.2)
            refine ⟨_, rfl, ?_⟩
            have n0_ := aM (Kd.V_elder' (mV_ HO_3.out) (Kd.R_base ho0) hb)
            have n1_ := aM (Kd.V_elder' (mV_ HO_5.out) (Kd.R_base ho0) hb)
            have n2_ := aM (Kd.V_elder' (mV_ HL255_0.out) (Kd.R_base ho0) hb)
            have n3_ := aM (Kd.R_lower (Kd.R_newM (M := fun k_ => (w.heap.size ≤ k_)) ho0 (below_size zb) (fun k_ h_ => h_)) (below_size zb))
            have n4_ := aM (Kd.C_below (mQ_ HR255_0.out) hb)
            have n5_ := aM (below_step zb hb)
            clear HO_3
            clear HO_5
            clear HL255_0
            clear HR255_0
            clear HB
            have HO_3 := n0_
            have HO_5 := n1_
            have HL255_0 := n2_
            have HO259 := n3_
            have HR255_0 := n4_
            have HB := n5_
            clear n0_ n1_ n2_ n3_ n4_ n5_
            (try clear hb)
            (try clear hb2)
            (try clear hk)
            (try clear hi)
            (try clear ho0)
            obtain ⟨Ao61, co61, eo61⟩ := Kd.R_slice HO259.out
            (first | subst eo61 | (injection eo61 with f1_ f2_ f3_; have f4_ := f1_.symm; have f5_ := f3_.symm; clear f1_ f2_ f3_; subst f4_; subst f5_))
            have p260 : 0 ≤ (x8_4 : Int) := of_decide_eq_true za
            have q260 : x8_4 < (t257.length : Int) := of_decide_eq_true za
            obtain ⟨ad260, e260, hx260_0, hx260_1, hx260_2⟩ := at_T43 (Kd.R_reads' HO259.out).2.2 x8_4 p260 q260
            cases e260
            replace p260 := eq_true p260
            replace q260 := eq_true q260
            refine hK.out _ _ ⟨HS0_, HS1_, HS2_, HS3_⟩ (fun hHeld => ?_)
            clear hK K
            refine more_ (S' := fun w' => w'.cell? (ad254.add (x6_2).toNat) = some (.slice (some ad256) (rd_L2 x3_1 x6_2).length c255_0) ∧ w'.cell? (ad256.add ((x7_3).toNat * 3)) = some (.int .i64 ((rd_T43 (rd_L2 x3_1 x6_2) x7_3).f0)) ∧ w'.cell? ⟨(ad256.add ((x7_3).toNat * 3)).block, (ad256.add ((x7_3).toNat * 3)).off + 1, none⟩ = some (.int .i64 ((rd_T43 (rd_L2 x3_1 x6_2) x7_3).f1)) ∧ w'.cell? ⟨(ad256.add ((x7_3).toNat * 3)).block, (ad256.add ((x7_3).toNat * 3)).off + 2, none⟩ = some (.int .i64 ((rd_T43 (rd_L2 x3_1 x6_2) x7_3).f2)) ∧ (spec_l09All.d3 w' ad260 x8_4 t257)) (fun _ h_ => ⟨h_.1, h_.2.1, h_.2.2.1, h_.2.2.2.1⟩) ⟨hHeld.1, hHeld.2.1, hHeld.2.2.1, hHeld.2.2.2, hx260_0, hx260_1, hx260_2⟩ (fun hHeld => ?_)
            refine norm_ (a' := ?_) ?_ ?_
            rotate_left
            ·show Act.put _ (some 45) _ = _
             simp only [Act.put, xA, xB, xC, i64_w, i32_w]
             rfl
            refine zp 9 (some 47) ?_ zA82 rfl rfl (Or.inl ⟨by rfl, ?_⟩) ?_ ?_ ?_
            rotate_left
            ·intro w'
             go_simp
             with_reducible rfl
            rotate_left
            ·simp only [Act.put, xA, xB, xC, i64_w, i32_w]
             rfl
            refine zu 10 (some 48) ?_ zA83 rfl rfl (Or.inl ⟨by rfl, ?_⟩) hHeld ?_ ?_ ?_
            rotate_left
            ·rintro w' ⟨s0, s1, s2, s3, s4, s5, s6⟩
             go_simp
             with_reducible rfl
            rotate_left
            ·simp only [Act.put, xA, xB, xC, i64_w, i32_w]
             rfl
            refine two_ (i := 11) (j := 12) (Ni := some 49) (Nj := some 9) zA84 zA85 rfl rfl rfl rfl (two_of HT_.out (by kernel_rfl)) (by decide) (by decide) (fun K hK => ?_) (fun K hK => ?_)
            ·skip
             refine goes_ Try.func25 (by kernel_rfl) rfl #[.agg #[.int .i64 ((rd_T43 (rd_L2 x3_1 x6_2) x7_3).f0), .int .i64 ((rd_T43 (rd_L2 x3_1 x6_2) x7_3).f1), .int .i64 ((rd_T43 (rd_L2 x3_1 x6_2) x7_3).f2)], spec_l09All.a3 t257 x8_4] (by rfl) rfl rfl zm ?_
             with_reducible refine (spec_l09Add.calls ((rd_T43 (rd_L2 x3_1 x6_2) x7_3).f0) ((rd_T43 (rd_L2 x3_1 x6_2) x7_3).f1) ((rd_T43 (rd_L2 x3_1 x6_2) x7_3).f2) ((rd_T43 t257 x8_4).f0) ((rd_T43 t257 x8_4).f1) ((rd_T43 t257 x8_4).f2) t261 t262 t263 _ A23.out).mono ?_
             rintro e w62 ⟨rfl, hb⟩
             have HS0_ := zk hb (hHeld.1)
             have HS1_ := zk hb (hHeld.2.1)
             have HS2_ := zk hb (hHeld.2.2.1)
             have HS3_ := zk hb (hHeld.2.2.2.1)
             have HS4_ := zk hb (hHeld.2.2.2.2.1)
             have HS5_ := zk hb (hHeld.2.2.2.2.2.1)
             have HS6_ := zk hb (hHeld.2.2.2.2.2.2)
             refine ⟨_, rfl, ?_⟩
             have n0_ := aM (Kd.V_below (mV_ HO_3.out) hb)
             have n1_ := aM (Kd.V_below (mV_ HO_5.out) hb)
             have n2_ := aM (Kd.V_below (mV_ HL255_0.out) hb)
             have n3_ := aM (Kd.R_below (mR_ HO259.out) hb)
             have n4_ := aM (Kd.C_below (mQ_ HR255_0.out) hb)
             have n5_ := aM (below_step zb hb)
             clear HO_3
             clear HO_5
             clear HL255_0
             clear HO259
             clear HR255_0
             clear HB
             have HO_3 := n0_
             have HO_5 := n1_
             have HL255_0 := n2_
             have HO259 := n3_
             have HR255_0 := n4_
             have HB := n5_
             clear n0_ n1_ n2_ n3_ n4_ n5_
             (try clear hb)
             (try clear hb2)
             (try clear hk)
             (try clear hi)
             refine hK.out _ _ ⟨HS0_, HS1_, HS2_, HS3_, HS4_, HS5_, HS6_⟩ (fun hHeld => ?_)
             clear hK K
             refine norm_ (a' := ?_) ?_ ?_
             rotate_left
             ·show Act.put _ (some 49) _ = _
              simp only [Act.put, xA, xB, xC, i64_w, i32_w]
              rfl
             refine one_ (i := 12) (N := some 9) zA79 rfl rfl (one_of HT_.out (by kernel_rfl)) (by decide) (fun K hK => ?_)
             refine box_step ?hg (N := 9) ?hd (cs := #[.int .i64 0, .int .i64 0, .int .i64 0]) (t := 43) ?hr ?_; (case hd => rfl); (case hg => rfl); (case hr => first | (go_simp; done) | (go_simp; rfl))
             intro gb264 hg w63 hbox hb
             have HS0_ := zk hb (hHeld.1)
             have HS1_ := zk hb (hHeld.2.1)
             have HS2_ := zk hb (hHeld.2.2.1)
             have HS3_ := zk hb (hHeld.2.2.2.1)
             have HS4_ := zk hb (hHeld.2.2.2.2.1)
             have HS5_ := zk hb (hHeld.2.2.2.2.2.1)
             have HS6_ := zk hb (hHeld.2.2.2.2.2.2)
             have n0_ := aM (Kd.V_below (Kd.V_elderB (mV_ HO_3.out) gb264 (Nat.le_of_eq hg.symm)) hb)
             have n1_ := aM (Kd.V_below (Kd.V_elderB (mV_ HO_5.out) gb264 (Nat.le_of_eq hg.symm)) hb)
             have n2_ := aM (Kd.V_below (Kd.V_elderB (mV_ HL255_0.out) gb264 (Nat.le_of_eq hg.symm)) hb)
             have n3_ := aM (Kd.R_below (Kd.R_elderB (mR_ HO259.out) gb264 (Nat.le_of_eq hg.symm)) hb)
             have n4_ := aM (Kd.C_below (mQ_ HR255_0.out) hb)
             have n5_ := aM (below_step zb hb)
             have n6_ := aM (hbox)
             have n7_ := aM ((ze : w.heap.size ≤ gb264))
             have n8_ := aM ((ze : w.heap.size ≤ gb264))
             clear HO_3
             clear HO_5
             clear HL255_0
             clear HO259
             clear HR255_0
             clear HB
             have HO_3 := n0_
             have HO_5 := n1_
             have HL255_0 := n2_
             have HO259 := n3_
             have HR255_0 := n4_
             have HB := n5_
             have BK264 := n6_
             have GW264 := n7_
             have GE264 := n8_
             clear n0_ n1_ n2_ n3_ n4_ n5_ n6_ n7_ n8_
             clear hb hbox hg
             refine hK.out _ _ ⟨HS0_, HS1_, HS2_, HS3_, HS4_, HS5_, HS6_⟩ (fun hHeld => ?_)
             clear hK K
             refine norm_ (a' := ?_) ?_ ?_
             rotate_left
             ·show Act.put _ (some 9) _ = _
              simp only [Act.put, xA, xB, xC, i64_w, i32_w]
              rfl
             exact norm_ (by simp only [putAll, Act.put, xA, xB, xC]) (hCont ((.slice (some ad260) t257.length co61, gb264), ad260) _ ⟨hHeld, (zd0 HL255_0.out), (zd10 HO259.out), (zd0 HO_3.out), (zd0 HO_5.out), (mB_ BK264.out), GW264.out, GE264.out, (zs GE264.out), ⟨_, rfl⟩⟩)
            ·skip
             refine box_step ?hg (N := 9) ?hd (cs := #[.int .i64 0, .int .i64 0, .int .i64 0]) (t := 43) ?hr ?_; (case hd => rfl); (case hg => rfl); (case hr => first | (go_simp; done) | (go_simp; rfl))
             intro gb264 hg w62 hbox hb
             have HS0_ := zk hb (hHeld.1)
             have HS1_ := zk hb (hHeld.2.1)
             have HS2_ := zk hb (hHeld.2.2.1)
             have HS3_ := zk hb (hHeld.2.2.2.1)
             have HS4_ := zk hb (hHeld.2.2.2.2.1)
             have HS5_ := zk hb (hHeld.2.2.2.2.2.1)
             have HS6_ := zk hb (hHeld.2.2.2.2.2.2)
             have n0_ := aM (Kd.V_below (Kd.V_elderB (mV_ HO_3.out) gb264 (Nat.le_of_eq hg.symm)) hb)
             have n1_ := aM (Kd.V_below (Kd.V_elderB (mV_ HO_5.out) gb264 (Nat.le_of_eq hg.symm)) hb)
             have n2_ := aM (Kd.V_below (Kd.V_elderB (mV_ HL255_0.out) gb264 (Nat.le_of_eq hg.symm)) hb)
             have n3_ := aM (Kd.R_below (Kd.R_elderB (mR_ HO259.out) gb264 (Nat.le_of_eq hg.symm)) hb)
             have n4_ := aM (Kd.C_below (mQ_ HR255_0.out) hb)
             have n5_ := aM (below_step zb hb)
             have n6_ := aM (hbox)
             have n7_ := aM ((ze : w.heap.size ≤ gb264))
             have n8_ := aM ((ze : w.heap.size ≤ gb264))
             clear HO_3
             clear HO_5
             clear HL255_0
             clear HO259
             clear HR255_0
             clear HB
             have HO_3 := n0_
             have HO_5 := n1_
             have HL255_0 := n2_
             have HO259 := n3_
             have HR255_0 := n4_
             have HB := n5_
             have BK264 := n6_
             have GW264 := n7_
             have GE264 := n8_
             clear n0_ n1_ n2_ n3_ n4_ n5_ n6_ n7_ n8_
             clear hb hbox hg
             refine hK.out _ _ ⟨HS0_, HS1_, HS2_, HS3_, HS4_, HS5_, HS6_⟩ (fun hHeld => ?_)
             clear hK K
             refine norm_ (a' := ?_) ?_ ?_
             rotate_left
             ·show Act.put _ (some 9) _ = _
              simp only [Act.put, xA, xB, xC, i64_w, i32_w]
              rfl
             refine one_ (i := 11) (N := some 49) zA79 rfl rfl (one_of HT_.out (by kernel_rfl)) (by decide) (fun K hK => ?_)
             refine goes_ Try.func25 (by kernel_rfl) rfl #[.agg #[.int .i64 ((rd_T43 (rd_L2 x3_1 x6_2) x7_3).f0), .int .i64 ((rd_T43 (rd_L2 x3_1 x6_2) x7_3).f1), .int .i64 ((rd_T43 (rd_L2 x3_1 x6_2) x7_3).f2)], spec_l09All.a3 t257 x8_4] (by rfl) rfl rfl zm ?_
             with_reducible refine (spec_l09Add.calls ((rd_T43 (rd_L2 x3_1 x6_2) x7_3).f0) ((rd_T43 (rd_L2 x3_1 x6_2) x7_3).f1) ((rd_T43 (rd_L2 x3_1 x6_2) x7_3).f2) ((rd_T43 t257 x8_4).f0) ((rd_T43 t257 x8_4).f1) ((rd_T43 t257 x8_4).f2) t261 t262 t263 _ A23.out).mono ?_
             rintro e w63 ⟨rfl, hb⟩
             have HS0_ := zk hb (hHeld.1)
             have HS1_ := zk hb (hHeld.2.1)
             have HS2_ := zk hb (hHeld.2.2.1)
             have HS3_ := zk hb (hHeld.2.2.2.1)
             have HS4_ := zk hb (hHeld.2.2.2.2.1)
             have HS5_ := zk hb (hHeld.2.2.2.2.2.1)
             have HS6_ := zk hb (hHeld.2.2.2.2.2.2)
             refine ⟨_, rfl, ?_⟩
             have n0_ := aM (Kd.V_below (mV_ HO_3.out) hb)
             have n1_ := aM (Kd.V_below (mV_ HO_5.out) hb)
             have n2_ := aM (Kd.V_below (mV_ HL255_0.out) hb)
             have n3_ := aM (Kd.R_below (mR_ HO259.out) hb)
             have n4_ := aM (Kd.C_below (mQ_ HR255_0.out) hb)
             have n5_ := aM (blk_below (g := gb264) (o := .cells #[.int .i64 0, .int .i64 0, .int .i64 0] 43 (0, 0)) (mB_ BK264.out) hb)
             have n6_ := aM (below_step (zs GE264.out) hb)
             clear HO_3
             clear HO_5
             clear HL255_0
             clear HO259
             clear HR255_0
             clear BK264
             clear HB
             have HO_3 := n0_
             have HO_5 := n1_
             have HL255_0 := n2_
             have HO259 := n3_
             have HR255_0 := n4_
             have BK264 := n5_
             have HB := n6_
             clear n0_ n1_ n2_ n3_ n4_ n5_ n6_
             (try clear hb)
             (try clear hb2)
             (try clear hk)
             (try clear hi)
             refine hK.out _ _ ⟨HS0_, HS1_, HS2_, HS3_, HS4_, HS5_, HS6_⟩ (fun hHeld => ?_)
             clear hK K
             refine norm_ (a' := ?_) ?_ ?_
             rotate_left
             ·show Act.put _ (some 49) _ = _
              simp only [Act.put, xA, xB, xC, i64_w, i32_w]
              rfl
             exact norm_ (by simp only [putAll, Act.put, xA, xB, xC]) (hCont ((.slice (some ad260) t257.length co61, gb264), ad260) _ ⟨hHeld, (zd0 HL255_0.out), (zd10 HO259.out), (zd0 HO_3.out), (zd0 HO_5.out), (mB_ BK264.out), GW264.out, GE264.out, (zs GE264.out), ⟨_, rfl⟩⟩)
           ·skip
            refine box_step ?hg (N := 9) ?hd (cs := #[.int .i64 0, .int .i64 0, .int .i64 0]) (t := 43) ?hr ?_; (case hd => rfl); (case hg => rfl); (case hr => first | (go_simp; done) | (go_simp; rfl))
            intro gb264 hg w60 hbox hb
            have HS0_ := zk hb (hHeld.1)
            have HS1_ := zk hb (hHeld.2.1)
            have HS2_ := zk hb (hHeld.2.2.1)
            have HS3_ := zk hb (hHeld.2.2.2)
            have n0_ := aM (Kd.V_below (Kd.V_elderB (mV_ HO_3.out) gb264 (Nat.le_of_eq hg.symm)) hb)
            have n1_ := aM (Kd.V_below (Kd.V_elderB (mV_ HO_5.out) gb264 (Nat.le_of_eq hg.symm)) hb)
            have n2_ := aM (Kd.V_below (Kd.V_elderB (mV_ HL255_0.out) gb264 (Nat.le_of_eq hg.symm)) hb)
            have n3_ := aM (Kd.C_below (mQ_ HR255_0.out) hb)
            have n4_ := aM (below_step zb hb)
            have n5_ := aM (hbox)
            have n6_ := aM ((ze : w.heap.size ≤ gb264))
            have n7_ := aM ((ze : w.heap.size ≤ gb264))
            clear HO_3
            clear HO_5
            clear HL255_0
            clear HR255_0
            clear HB
            have HO_3 := n0_
            have HO_5 := n1_
            have HL255_0 := n2_
            have HR255_0 := n3_
            have HB := n4_
            have BK264 := n5_
            have GW264 := n6_
            have GE264 := n7_
            clear n0_ n1_ n2_ n3_ n4_ n5_ n6_ n7_
            clear hb hbox hg
            refine hK.out _ _ ⟨HS0_, HS1_, HS2_, HS3_⟩ (fun hHeld => ?_)
            clear hK K
            refine norm_ (a' := ?_) ?_ ?_
            rotate_left
            ·show Act.put _ (some 9) _ = _
             simp only [Act.put, xA, xB, xC, i64_w, i32_w]
             rfl
            refine one_ (i := 7) (N := some 45) zA86 rfl rfl (one_of HT_.out (by kernel_rfl)) (by decide) (fun K hK => ?_)
            refine goes_ Try.func26 (by kernel_rfl) rfl #[] (by rfl) rfl rfl zm ?_
            with_reducible refine (spec_l09Steps.calls  t257 _ A20.out).mono ?_
            rintro e w61 ⟨v258, rfl, ho0, hb⟩
            have HS0_ := zk hb (hHeld.1)
            have HS1_ := zk hb (hHeld.2.1)
            have HS2_ := zk hb (hHeld.2.2.1)
            have HS3_ := zk hb (hHeld.2.2.2)
            refine ⟨_, rfl, ?_⟩
            have n0_ := aM (Kd.V_elder' (mV_ HO_3.out) (Kd.R_base ho0) hb)
            have n1_ := aM (Kd.V_elder' (mV_ HO_5.out) (Kd.R_base ho0) hb)
            have n2_ := aM (Kd.V_elder' (mV_ HL255_0.out) (Kd.R_base ho0) hb)
            have n3_ := aM (Kd.R_lower (Kd.R_newB (Kd.R_newM (M := fun k_ => (w.heap.size ≤ k_)) ho0 (below_size (zs GE264.out)) (fun k_ h_ => h_)) (g := gb264) (o := .cells #[.int .i64 0, .int .i64 0, .int .i64 0] 43 (0, 0)) (mB_ BK264.out)) (below_size (zs GE264.out)))
            have n4_ := aM (Kd.C_below (mQ_ HR255_0.out) hb)
            have n5_ := aM (blk_below (g := gb264) (o := .cells #[.int .i64 0, .int .i64 0, .int .i64 0] 43 (0, 0)) (mB_ BK264.out) hb)
            have n6_ := aM (below_step (zs GE264.out) hb)
            clear HO_3
            clear HO_5
            clear HL255_0
            clear HR255_0
            clear BK264
            clear HB
            have HO_3 := n0_
            have HO_5 := n1_
            have HL255_0 := n2_
            have HO259 := n3_
            have HR255_0 := n4_
            have BK264 := n5_
            have HB := n6_
            clear n0_ n1_ n2_ n3_ n4_ n5_ n6_
            (try clear hb)
            (try clear hb2)
            (try clear hk)
            (try clear hi)
            (try clear ho0)
            obtain ⟨Ao62, co62, eo62⟩ := Kd.R_slice HO259.out
            (first | subst eo62 | (injection eo62 with f1_ f2_ f3_; have f4_ := f1_.symm; have f5_ := f3_.symm; clear f1_ f2_ f3_; subst f4_; subst f5_))
            have p260 : 0 ≤ (x8_4 : Int) := of_decide_eq_true za
            have q260 : x8_4 < (t257.length : Int) := of_decide_eq_true za
            obtain ⟨ad260, e260, hx260_0, hx260_1, hx260_2⟩ := at_T43 (Kd.R_reads' HO259.out).2.2 x8_4 p260 q260
            cases e260
            replace p260 := eq_true p260
            replace q260 := eq_true q260
            refine hK.out _ _ ⟨HS0_, HS1_, HS2_, HS3_⟩ (fun hHeld => ?_)
            clear hK K
            refine more_ (S' := fun w' => w'.cell? (ad254.add (x6_2).toNat) = some (.slice (some ad256) (rd_L2 x3_1 x6_2).length c255_0) ∧ w'.cell? (ad256.add ((x7_3).toNat * 3)) = some (.int .i64 ((rd_T43 (rd_L2 x3_1 x6_2) x7_3).f0)) ∧ w'.cell? ⟨(ad256.add ((x7_3).toNat * 3)).block, (ad256.add ((x7_3).toNat * 3)).off + 1, none⟩ = some (.int .i64 ((rd_T43 (rd_L2 x3_1 x6_2) x7_3).f1)) ∧ w'.cell? ⟨(ad256.add ((x7_3).toNat * 3)).block, (ad256.add ((x7_3).toNat * 3)).off + 2, none⟩ = some (.int .i64 ((rd_T43 (rd_L2 x3_1 x6_2) x7_3).f2)) ∧ (spec_l09All.d3 w' ad260 x8_4 t257)) (fun _ h_ => ⟨h_.1, h_.2.1, h_.2.2.1, h_.2.2.2.1⟩) ⟨hHeld.1, hHeld.2.1, hHeld.2.2.1, hHeld.2.2.2, hx260_0, hx260_1, hx260_2⟩ (fun hHeld => ?_)
            refine norm_ (a' := ?_) ?_ ?_
            rotate_left
            ·show Act.put _ (some 45) _ = _
             simp only [Act.put, xA, xB, xC, i64_w, i32_w]
             rfl
            refine zp 9 (some 47) ?_ zA87 rfl rfl (Or.inl ⟨by rfl, ?_⟩) ?_ ?_ ?_
            rotate_left
            ·intro w'
             go_simp
             with_reducible rfl
            rotate_left
            ·simp only [Act.put, xA, xB, xC, i64_w, i32_w]
             rfl
            refine zu 10 (some 48) ?_ zA85 rfl rfl (Or.inl ⟨by rfl, ?_⟩) hHeld ?_ ?_ ?_
            rotate_left
            ·rintro w' ⟨s0, s1, s2, s3, s4, s5, s6⟩
             go_simp
             with_reducible rfl
            rotate_left
            ·simp only [Act.put, xA, xB, xC, i64_w, i32_w]
             rfl
            refine one_ (i := 11) (N := some 49) zA79 rfl rfl (one_of HT_.out (by kernel_rfl)) (by decide) (fun K hK => ?_)
            refine goes_ Try.func25 (by kernel_rfl) rfl #[.agg #[.int .i64 ((rd_T43 (rd_L2 x3_1 x6_2) x7_3).f0), .int .i64 ((rd_T43 (rd_L2 x3_1 x6_2) x7_3).f1), .int .i64 ((rd_T43 (rd_L2 x3_1 x6_2) x7_3).f2)], spec_l09All.a3 t257 x8_4] (by rfl) rfl rfl zm ?_
            with_reducible refine (spec_l09Add.calls ((rd_T43 (rd_L2 x3_1 x6_2) x7_3).f0) ((rd_T43 (rd_L2 x3_1 x6_2) x7_3).f1) ((rd_T43 (rd_L2 x3_1 x6_2) x7_3).f2) ((rd_T43 t257 x8_4).f0) ((rd_T43 t257 x8_4).f1) ((rd_T43 t257 x8_4).f2) t261 t262 t263 _ A23.out).mono ?_
            rintro e w63 ⟨rfl, hb⟩
            have HS0_ := zk hb (hHeld.1)
            have HS1_ := zk hb (hHeld.2.1)
            have HS2_ := zk hb (hHeld.2.2.1)
            have HS3_ := zk hb (hHeld.2.2.2.1)
            have HS4_ := zk hb (hHeld.2.2.2.2.1)
            have HS5_ := zk hb (hHeld.2.2.2.2.2.1)
            have HS6_ := zk hb (hHeld.2.2.2.2.2.2)
            refine ⟨_, rfl, ?_⟩
            have n0_ := aM (Kd.V_below (mV_ HO_3.out) hb)
            have n1_ := aM (Kd.V_below (mV_ HO_5.out) hb)
            have n2_ := aM (Kd.V_below (mV_ HL255_0.out) hb)
            have n3_ := aM (Kd.R_below (mR_ HO259.out) hb)
            have n4_ := aM (Kd.C_below (mQ_ HR255_0.out) hb)
            have n5_ := aM (blk_below (g := gb264) (o := .cells #[.int .i64 0, .int .i64 0, .int .i64 0] 43 (0, 0)) (mB_ BK264.out) hb)
            have n6_ := aM (below_step (zs GE264.out) hb)
            clear HO_3
            clear HO_5
            clear HL255_0
            clear HO259
            clear HR255_0
            clear BK264
            clear HB
            have HO_3 := n0_
            have HO_5 := n1_
            have HL255_0 := n2_
            have HO259 := n3_
            have HR255_0 := n4_
            have BK264 := n5_
            have HB := n6_
            clear n0_ n1_ n2_ n3_ n4_ n5_ n6_
            (try clear hb)
            (try clear hb2)
            (try clear hk)
            (try clear hi)
            refine hK.out _ _ ⟨HS0_, HS1_, HS2_, HS3_, HS4_, HS5_, HS6_⟩ (fun hHeld => ?_)
            clear hK K
            refine norm_ (a' := ?_) ?_ ?_
            rotate_left
            ·show Act.put _ (some 49) _ = _
             simp only [Act.put, xA, xB, xC, i64_w, i32_w]
             rfl
            exact norm_ (by simp only [putAll, Act.put, xA, xB, xC]) (hCont ((.slice (some ad260) t257.length co62, gb264), ad260) _ ⟨hHeld, (zd2 HL255_0.out), (zd10 HO259.out), (zd2 HO_3.out), (zd2 HO_5.out), (mB_ BK264.out), GW264.out, GE264.out, (zs GE264.out), ⟨_, rfl⟩⟩)
          rintro ⟨⟨v258, gb264⟩, ad260⟩ w64 ⟨hS_, h0_, h1_, h2_, h3_, h4_, h5_, h6_, h7_, ⟨c9_, hE9_⟩⟩
          replace hE9_ : v258 = Value.slice (some ad260) t257.length c9_ := hE9_
          subst hE9_
          have p260 : 0 ≤ (x8_4 : Int) := of_decide_eq_true za
          replace p260 := eq_true p260
          have q260 : x8_4 < (t257.length : Int) := of_decide_eq_true za
          replace q260 := eq_true q260
          refine more_ (S' := fun w' => w'.cell? (ad254.add (x6_2).toNat) = some (.slice (some ad256) (rd_L2 x3_1 x6_2).length c255_0) ∧ w'.cell? (ad256.add ((x7_3).toNat * 3)) = some (.int .i64 ((rd_T43 (rd_L2 x3_1 x6_2) x7_3).f0)) ∧ w'.cell? ⟨(ad256.add ((x7_3).toNat * 3)).block, (ad256.add ((x7_3).toNat * 3)).off + 1, none⟩ = some (.int .i64 ((rd_T43 (rd_L2 x3_1 x6_2) x7_3).f1)) ∧ w'.cell? ⟨(ad256.add ((x7_3).toNat * 3)).block, (ad256.add ((x7_3).toNat * 3)).off + 2, none⟩ = some (.int .i64 ((rd_T43 (rd_L2 x3_1 x6_2) x7_3).f2)) ∧ (spec_l09All.d3 w' ad260 x8_4 t257)) (fun _ h_ => h_) hS_ (fun hS_ => ?_)
          have n0_ : Aside0 (Kd.V k43 43 w64 w.heap.size (fun k_ => (w.heap.size ≤ k_) ∧ some k_ ≠ ((.slice (some ad260) t257.length c9_) : Value).ownBlock ∧ k_ ≠ gb264) (.slice (some ad256) (rd_L2 x3_1 x6_2).length c255_0) (rd_L2 x3_1 x6_2)) := ⟨h0_⟩
          have n1_ : Aside0 (Kd.R k43 43 w64 w.heap.size (fun k_ => (w.heap.size ≤ k_) ∧ k_ ≠ gb264) (.slice (some ad260) t257.length c9_) t257) := ⟨h1_⟩
          have n2_ : Aside0 (Kd.V (Kd.slice 43 k43) 40 w64 w.heap.size (fun k_ => (w.heap.size ≤ k_) ∧ some k_ ≠ ((.slice (some ad260) t257.length c9_) : Value).ownBlock ∧ k_ ≠ gb264) (.slice (some ad254) x3_1.length co11) x3_1) := ⟨h2_⟩
          have n3_ : Aside0 (Kd.V (Kd.slice 43 k43) 40 w64 w.heap.size (fun k_ => (w.heap.size ≤ k_) ∧ some k_ ≠ ((.slice (some ad260) t257.length c9_) : Value).ownBlock ∧ k_ ≠ gb264) u5 x5_4) := ⟨h3_⟩
          have n4_ : Aside0 (w64.heap[gb264]? = some (.cells #[.int .i64 0, .int .i64 0, .int .i64 0] 43 (0, 0))) := ⟨h4_⟩
          have n5_ : Aside0 (w.heap.size ≤ gb264) := ⟨h5_⟩
          have n6_ : Aside0 (w.heap.size ≤ gb264) := ⟨h6_⟩
          have n7_ : Aside0 (Below w.heap.size w w64) := ⟨h7_⟩
          clear HO_3
          clear HO_5
          clear HB
          clear h0_ h1_ h2_ h3_ h4_ h5_ h6_ h7_
          have HL255_0 := n0_
          have HO259 := n1_
          have HO_3 := n2_
          have HO_5 := n3_
          have BK264 := n4_
          have GW264 := n5_
          have GE264 := n6_
          have HB := n7_
          clear n0_ n1_ n2_ n3_ n4_ n5_ n6_ n7_
          have hHeld : w64.cell? (ad254.add (x6_2).toNat) = some (.slice (some ad256) (rd_L2 x3_1 x6_2).length c255_0) ∧ w64.cell? (ad256.add ((x7_3).toNat * 3)) = some (.int .i64 ((rd_T43 (rd_L2 x3_1 x6_2) x7_3).f0)) ∧ w64.cell? ⟨(ad256.add ((x7_3).toNat * 3)).block, (ad256.add ((x7_3).toNat * 3)).off + 1, none⟩ = some (.int .i64 ((rd_T43 (rd_L2 x3_1 x6_2) x7_3).f1)) ∧ w64.cell? ⟨(ad256.add ((x7_3).toNat * 3)).block, (ad256.add ((x7_3).toNat * 3)).off + 2, none⟩ = some (.int .i64 ((rd_T43 (rd_L2 x3_1 x6_2) x7_3).f2)) ∧ (spec_l09All.d3 w64 ad260 x8_4 t257) := hS_
          refine norm_ (a' := ?_) ?_ ?_
          rotate_left
          ·simp only [putAll, Act.put, xA, xB, xC]
           rfl
          refine one_ (i := 13) (N := none) zA88 rfl rfl (one_of HT_.out (by kernel_rfl)) (by decide) (fun K hK => ?_)
          have hs65 : w64.cell? ⟨gb264, 0, none⟩ = some (.int .i64 0) := (blk_cell BK264.out 0).trans rfl
          have hfs65 := blk_frozen BK264.out 0
          have hs66 : w64.cell? ⟨gb264, 1, none⟩ = some (.int .i64 0) := (blk_cell BK264.out 1).trans rfl
          have hfs66 := blk_frozen BK264.out 1
          have hs67 : w64.cell? ⟨gb264, 2, none⟩ = some (.int .i64 0) := (blk_cell BK264.out 2).trans rfl
          have hfs67 := blk_frozen BK264.out 2
          refine skip_ (w1 := ?_) (by rfl) rfl ?_ ?_
          rotate_left
          ·go_simp
           rfl
          refine hK.out _ _ ⟨((cell_far (p := ⟨gb264, _, none⟩) (by first | exact V_ne9_ HO_3.out (by decide) PV254.out (fun _ hk => hk.2.2) | (rw [add_block]; exact V_ne9_ HO_3.out (by decide) PV254.out (fun _ hk => hk.2.2)) | (show (Addr.add _ _).block ≠ _; rw [add_block]; exact V_ne9_ HO_3.out (by decide) PV254.out (fun _ hk => hk.2.2)) | (dsimp only; exact V_ne9_ HO_3.out (by decide) PV254.out (fun _ hk => hk.2.2))) _).trans (((cell_far (p := ⟨gb264, _, none⟩) (by first | exact V_ne9_ HO_3.out (by decide) PV254.out (fun _ hk => hk.2.2) | (rw [add_block]; exact V_ne9_ HO_3.out (by decide) PV254.out (fun _ hk => hk.2.2)) | (show (Addr.add _ _).block ≠ _; rw [add_block]; exact V_ne9_ HO_3.out (by decide) PV254.out (fun _ hk => hk.2.2)) | (dsimp only; exact V_ne9_ HO_3.out (by decide) PV254.out (fun _ hk => hk.2.2))) _).trans (((cell_far (p := ⟨gb264, _, none⟩) (by first | exact V_ne9_ HO_3.out (by decide) PV254.out (fun _ hk => hk.2.2) | (rw [add_block]; exact V_ne9_ HO_3.out (by decide) PV254.out (fun _ hk => hk.2.2)) | (show (Addr.add _ _).block ≠ _; rw [add_block]; exact V_ne9_ HO_3.out (by decide) PV254.out (fun _ hk => hk.2.2)) | (dsimp only; exact V_ne9_ HO_3.out (by decide) PV254.out (fun _ hk => hk.2.2))) _).trans (hHeld.1)))))), ((cell_far (p := ⟨gb264, _, none⟩) (by first | exact V_ne9_ HL255_0.out (by decide) PV256.out (fun _ hk => hk.2.2) | (rw [add_block]; exact V_ne9_ HL255_0.out (by decide) PV256.out (fun _ hk => hk.2.2)) | (show (Addr.add _ _).block ≠ _; rw [add_block]; exact V_ne9_ HL255_0.out (by decide) PV256.out (fun _ hk => hk.2.2)) | (dsimp only; exact V_ne9_ HL255_0.out (by decide) PV256.out (fun _ hk => hk.2.2))) _).trans (((cell_far (p := ⟨gb264, _, none⟩) (by first | exact V_ne9_ HL255_0.out (by decide) PV256.out (fun _ hk => hk.2.2) | (rw [add_block]; exact V_ne9_ HL255_0.out (by decide) PV256.out (fun _ hk => hk.2.2)) | (show (Addr.add _ _).block ≠ _; rw [add_block]; exact V_ne9_ HL255_0.out (by decide) PV256.out (fun _ hk => hk.2.2)) | (dsimp only; exact V_ne9_ HL255_0.out (by decide) PV256.out (fun _ hk => hk.2.2))) _).trans (((cell_far (p := ⟨gb264, _, none⟩) (by first | exact V_ne9_ HL255_0.out (by decide) PV256.out (fun _ hk => hk.2.2) | (rw [add_block]; exact V_ne9_ HL255_0.out (by decide) PV256.out (fun _ hk => hk.2.2)) | (show (Addr.add _ _).block ≠ _; rw [add_block]; exact V_ne9_ HL255_0.out (by decide) PV256.out (fun _ hk => hk.2.2)) | (dsimp only; exact V_ne9_ HL255_0.out (by decide) PV256.out (fun _ hk => hk.2.2))) _).trans (hHeld.2.1)))))), ((cell_far (p := ⟨gb264, _, none⟩) (by first | exact V_ne9_ HL255_0.out (by decide) PV256.out (fun _ hk => hk.2.2) | (rw [add_block]; exact V_ne9_ HL255_0.out (by decide) PV256.out (fun _ hk => hk.2.2)) | (show (Addr.add _ _).block ≠ _; rw [add_block]; exact V_ne9_ HL255_0.out (by decide) PV256.out (fun _ hk => hk.2.2)) | (dsimp only; exact V_ne9_ HL255_0.out (by decide) PV256.out (fun _ hk => hk.2.2))) _).trans (((cell_far (p := ⟨gb264, _, none⟩) (by first | exact V_ne9_ HL255_0.out (by decide) PV256.out (fun _ hk => hk.2.2) | (rw [add_block]; exact V_ne9_ HL255_0.out (by decide) PV256.out (fun _ hk => hk.2.2)) | (show (Addr.add _ _).block ≠ _; rw [add_block]; exact V_ne9_ HL255_0.out (by decide) PV256.out (fun _ hk => hk.2.2)) | (dsimp only; exact V_ne9_ HL255_0.out (by decide) PV256.out (fun _ hk => hk.2.2))) _).trans (((cell_far (p := ⟨gb264, _, none⟩) (by first | exact V_ne9_ HL255_0.out (by decide) PV256.out (fun _ hk => hk.2.2) | (rw [add_block]; exact V_ne9_ HL255_0.out (by decide) PV256.out (fun _ hk => hk.2.2)) | (show (Addr.add _ _).block ≠ _; rw [add_block]; exact V_ne9_ HL255_0.out (by decide) PV256.out (fun _ hk => hk.2.2)) | (dsimp only; exact V_ne9_ HL255_0.out (by decide) PV256.out (fun _ hk => hk.2.2))) _).trans (hHeld.2.2.1)))))), ((cell_far (p := ⟨gb264, _, none⟩) (by first | exact V_ne9_ HL255_0.out (by decide) PV256.out (fun _ hk => hk.2.2) | (rw [add_block]; exact V_ne9_ HL255_0.out (by decide) PV256.out (fun _ hk => hk.2.2)) | (show (Addr.add _ _).block ≠ _; rw [add_block]; exact V_ne9_ HL255_0.out (by decide) PV256.out (fun _ hk => hk.2.2)) | (dsimp only; exact V_ne9_ HL255_0.out (by decide) PV256.out (fun _ hk => hk.2.2))) _).trans (((cell_far (p := ⟨gb264, _, none⟩) (by first | exact V_ne9_ HL255_0.out (by decide) PV256.out (fun _ hk => hk.2.2) | (rw [add_block]; exact V_ne9_ HL255_0.out (by decide) PV256.out (fun _ hk => hk.2.2)) | (show (Addr.add _ _).block ≠ _; rw [add_block]; exact V_ne9_ HL255_0.out (by decide) PV256.out (fun _ hk => hk.2.2)) | (dsimp only; exact V_ne9_ HL255_0.out (by decide) PV256.out (fun _ hk => hk.2.2))) _).trans (((cell_far (p := ⟨gb264, _, none⟩) (by first | exact V_ne9_ HL255_0.out (by decide) PV256.out (fun _ hk => hk.2.2) | (rw [add_block]; exact V_ne9_ HL255_0.out (by decide) PV256.out (fun _ hk => hk.2.2)) | (show (Addr.add _ _).block ≠ _; rw [add_block]; exact V_ne9_ HL255_0.out (by decide) PV256.out (fun _ hk => hk.2.2)) | (dsimp only; exact V_ne9_ HL255_0.out (by decide) PV256.out (fun _ hk => hk.2.2))) _).trans (hHeld.2.2.2.1)))))), ((cell_far (p := ⟨gb264, _, none⟩) (zd30 HO259.out) _).trans (((cell_far (p := ⟨gb264, _, none⟩) (zd30 HO259.out) _).trans (((cell_far (p := ⟨gb264, _, none⟩) (zd30 HO259.out) _).trans (hHeld.2.2.2.2.1)))))), ((cell_far (p := ⟨gb264, _, none⟩) (zd30 HO259.out) _).trans (((cell_far (p := ⟨gb264, _, none⟩) (zd30 HO259.out) _).trans (((cell_far (p := ⟨gb264, _, none⟩) (zd30 HO259.out) _).trans (hHeld.2.2.2.2.2.1)))))), ((cell_far (p := ⟨gb264, _, none⟩) (zd30 HO259.out) _).trans (((cell_far (p := ⟨gb264, _, none⟩) (zd30 HO259.out) _).trans (((cell_far (p := ⟨gb264, _, none⟩) (zd30 HO259.out) _).trans (hHeld.2.2.2.2.2.2))))))⟩ (fun hHeld => ?_)
          clear hK K
          refine done_ (done_of HT_.out (by kernel_rfl)) ?_
          try go_wp2
          have n0_ : Aside0 (Kd.V (Kd.slice 43 k43) 40 (((w64.setCell ⟨gb264, 0, none⟩ (.int .i64 t261)).setCell ⟨gb264, 1, none⟩ (.int .i64 t262)).setCell ⟨gb264, 2, none⟩ (.int .i64 t263)) w.heap.size (fun k_ => (w.heap.size ≤ k_) ∧ some k_ ≠ ((.slice (some ad260) t257.length c9_) : Value).ownBlock ∧ k_ ≠ gb264) (.slice (some ad254) x3_1.length co11) x3_1) := ⟨by (with_reducible repeat (first | apply Kd.V_alloc | apply Kd.V_drewN | apply Kd.V_drew)); exact Kd.V_mono (Kd.V_far (p := ⟨gb264, 2, none⟩) (Kd.V_far (p := ⟨gb264, 1, none⟩) (Kd.V_far (p := ⟨gb264, 0, none⟩) (Kd.V_mono HO_3.out (fun k_ hk => (⟨hk, hk.2.2⟩ : _ ∧ k_ ≠ gb264))) (fun _ hk => hk.2) (.int .i64 t261)) (fun _ hk => hk.2) (.int .i64 t262)) (fun _ hk => hk.2) (.int .i64 t263)) (fun _ hk => ⟨hk.1.1, ⟨hk.1.2.1, hk.1.2.2⟩⟩)⟩
          have n1_ : Aside0 (Kd.V (Kd.slice 43 k43) 40 (((w64.setCell ⟨gb264, 0, none⟩ (.int .i64 t261)).setCell ⟨gb264, 1, none⟩ (.int .i64 t262)).setCell ⟨gb264, 2, none⟩ (.int .i64 t263)) w.heap.size (fun k_ => (w.heap.size ≤ k_) ∧ some k_ ≠ ((.slice (some ad260) t257.length c9_) : Value).ownBlock ∧ k_ ≠ gb264) u5 x5_4) := ⟨by (with_reducible repeat (first | apply Kd.V_alloc | apply Kd.V_drewN | apply Kd.V_drew)); exact Kd.V_mono (Kd.V_far (p := ⟨gb264, 2, none⟩) (Kd.V_far (p := ⟨gb264, 1, none⟩) (Kd.V_far (p := ⟨gb264, 0, none⟩) (Kd.V_mono HO_5.out (fun k_ hk => (⟨hk, hk.2.2⟩ : _ ∧ k_ ≠ gb264))) (fun _ hk => hk.2) (.int .i64 t261)) (fun _ hk => hk.2) (.int .i64 t262)) (fun _ hk => hk.2) (.int .i64 t263)) (fun _ hk => ⟨hk.1.1, ⟨hk.1.2.1, hk.1.2.2⟩⟩)⟩
          have n2_ : Aside0 (Kd.V k43 43 (((w64.setCell ⟨gb264, 0, none⟩ (.int .i64 t261)).setCell ⟨gb264, 1, none⟩ (.int .i64 t262)).setCell ⟨gb264, 2, none⟩ (.int .i64 t263)) w.heap.size (fun k_ => (w.heap.size ≤ k_) ∧ some k_ ≠ ((.slice (some ad260) t257.length c9_) : Value).ownBlock ∧ k_ ≠ gb264) (.slice (some ad256) (rd_L2 x3_1 x6_2).length c255_0) (rd_L2 x3_1 x6_2)) := ⟨by (with_reducible repeat (first | apply Kd.V_alloc | apply Kd.V_drewN | apply Kd.V_drew)); exact Kd.V_mono (Kd.V_far (p := ⟨gb264, 2, none⟩) (Kd.V_far (p := ⟨gb264, 1, none⟩) (Kd.V_far (p := ⟨gb264, 0, none⟩) (Kd.V_mono HL255_0.out (fun k_ hk => (⟨hk, hk.2.2⟩ : _ ∧ k_ ≠ gb264))) (fun _ hk => hk.2) (.int .i64 t261)) (fun _ hk => hk.2) (.int .i64 t262)) (fun _ hk => hk.2) (.int .i64 t263)) (fun _ hk => ⟨hk.1.1, ⟨hk.1.2.1, hk.1.2.2⟩⟩)⟩
          have n3_ : Aside0 (Kd.R k43 43 (((w64.setCell ⟨gb264, 0, none⟩ (.int .i64 t261)).setCell ⟨gb264, 1, none⟩ (.int .i64 t262)).setCell ⟨gb264, 2, none⟩ (.int .i64 t263)) w.heap.size (fun k_ => (w.heap.size ≤ k_) ∧ k_ ≠ gb264) (.slice (some ad260) t257.length c9_) t257) := ⟨by (with_reducible repeat (first | apply Kd.R_alloc | apply Kd.R_drewN | apply Kd.R_drew)); exact Kd.R_mono (Kd.R_far (p := ⟨gb264, 2, none⟩) (Kd.R_far (p := ⟨gb264, 1, none⟩) (Kd.R_far (p := ⟨gb264, 0, none⟩) (Kd.R_mono HO259.out (fun k_ hk => (⟨hk, hk.2⟩ : _ ∧ k_ ≠ gb264))) (fun _ hk => hk.2) (.int .i64 t261)) (fun _ hk => hk.2) (.int .i64 t262)) (fun _ hk => hk.2) (.int .i64 t263)) (fun _ hk => ⟨hk.1.1, hk.1.2⟩)⟩
          have n4_ : Aside0 ((((w64.setCell ⟨gb264, 0, none⟩ (.int .i64 t261)).setCell ⟨gb264, 1, none⟩ (.int .i64 t262)).setCell ⟨gb264, 2, none⟩ (.int .i64 t263)).heap[gb264]? = some (.cells #[.int .i64 t261, .int .i64 t262, .int .i64 t263] 43 (0, 0))) := ⟨by (with_reducible repeat (first | refine blk_drewN ?_ _ | refine blk_drew ?_ | refine blk_alloc ?_ _)); refine blk_put (cs := #[.int .i64 t261, .int .i64 t262, .int .i64 0]) ?_ 2 _ rfl; (with_reducible repeat (first | refine blk_drewN ?_ _ | refine blk_drew ?_ | refine blk_alloc ?_ _)); refine blk_put (cs := #[.int .i64 t261, .int .i64 0, .int .i64 0]) ?_ 1 _ rfl; (with_reducible repeat (first | refine blk_drewN ?_ _ | refine blk_drew ?_ | refine blk_alloc ?_ _)); refine blk_put (cs := #[.int .i64 0, .int .i64 0, .int .i64 0]) ?_ 0 _ rfl; (with_reducible repeat (first | refine blk_drewN ?_ _ | refine blk_drew ?_ | refine blk_alloc ?_ _)); exact BK264.out⟩
          have n5_ : Aside0 (Below w.heap.size w (((w64.setCell ⟨gb264, 0, none⟩ (.int .i64 t261)).setCell ⟨gb264, 1, none⟩ (.int .i64 t262)).setCell ⟨gb264, 2, none⟩ (.int .i64 t263))) := ⟨zs GE264.out⟩
          (try clear HO_3)
          (try clear HO_5)
          (try clear HL255_0)
          (try clear HO259)
          (try clear BK264)
          (try clear HB)
          generalize (((w64.setCell ⟨gb264, 0, none⟩ (.int .i64 t261)).setCell ⟨gb264, 1, none⟩ (.int .i64 t262)).setCell ⟨gb264, 2, none⟩ (.int .i64 t263)) = w68 at n0_ n1_ n2_ n3_ n4_ n5_ ⊢
          have HO_3 := n0_
          have HO_5 := n1_
          have HL255_0 := n2_
          have HO259 := n3_
          have BK264 := n4_
          have HB := n5_
          clear n0_ n1_ n2_ n3_ n4_ n5_
          have n0_ := aM (Kd.V_drew HO_3.out)
          have n1_ := aM (Kd.V_drew HO_5.out)
          have n2_ := aM (Kd.V_drew HL255_0.out)
          have n3_ := aM (Kd.R_drew HO259.out)
          have n4_ := aM (blk_drew BK264.out)
          have n5_ := aM (below_drew1 HB.out)
          clear HO_3
          clear HO_5
          clear HL255_0
          clear HO259
          clear BK264
          clear HB
          have HO_3 := n0_
          have HO_5 := n1_
          have HL255_0 := n2_
          have HO259 := n3_
          have BK264 := n4_
          have HB := n5_
          clear n0_ n1_ n2_ n3_ n4_ n5_
          have p265 : 0 ≤ (x6_2 : Int) := of_decide_eq_true za
          have q265 : x6_2 < (x3_1.length : Int) := of_decide_eq_true za
          obtain ⟨ad265, A265_0, c265_0, e265, hx265_0, hl265_0, hi265_0⟩ := at_L2 (Kd.V_reads' HO_3.out).2.2 x6_2 p265 q265
          obtain rfl : ad254 = ad265 := (by injection e265)
          obtain ⟨ce265, hce265, hMe265, hcc265⟩ := Kd.V_get HO_3.out [] x6_2 p265 (by first | exact q265 | exact of_decide_eq_true za | (have e_ := (Kd.V_reads' HO_3.out).1; omega))
          obtain ⟨ua265_0, uc265_0, rfl, ul265_0, ge265_0⟩ := Kd.FK_slice_open hMe265
          have hv265_0 := hcc265 0 _ rfl
          rw [Nat.add_zero, show ((Kd.slice 43 k43)).sz = 1 from rfl, Nat.mul_one] at hv265_0
          replace hv265_0 := Option.some.inj (hv265_0.symm.trans hx265_0)
          injection hv265_0 with hva_ hvn_ hvc_
          rw [hva_] at ge265_0
          rw [hvc_] at ul265_0
          have HL265_0 := aM (show Kd.V k43 43 _ w.heap.size _ _ (rd_L2 x3_1 x6_2) from Kd.V_mk ul265_0 ge265_0)
          clear hva_ hvn_ hvc_ ge265_0 ul265_0
          clear hcc265 hce265
          have HR265_0 := aM hi265_0
          have HC265_0 := aM hl265_0
          clear hi265_0 hl265_0
          replace p265 := eq_true p265
          replace q265 := eq_true q265
          refine start_ (n := 7) (S := fun w' => w'.cell? ⟨gb264, 0, none⟩ = some (.int .i64 t261) ∧ w'.cell? ⟨gb264, 1, none⟩ = some (.int .i64 t262) ∧ w'.cell? ⟨gb264, 2, none⟩ = some (.int .i64 t263) ∧ w'.cell? (ad254.add (x6_2).toNat) = some (.slice A265_0 (rd_L2 x3_1 x6_2).length c265_0)) (ds := []) #[false, false, false, false, false, false, false] (by kernel_rfl) rfl rfl ⟨(blk_cell BK264.out 0).trans rfl, (blk_cell BK264.out 1).trans rfl, (blk_cell BK264.out 2).trans rfl, hx265_0⟩ (fun hHeld => ?_)
          generalize w68.drew = w69 at HO_3 HO_5 HL255_0 HO259 BK264 HB HL265_0 HR265_0 hx265_0 hHeld ⊢
          refine pure_ (i := 0) (N := some 50) (v := ?_) (a' := ?_) #[true, false, false, false, false, false, false] rfl rfl (by kernel_rfl) (fun _ _ _ h => h) (Or.inl ⟨by rfl, ?_⟩) ?_ ?_
          rotate_left
          ·intro w'
           go_simp
           with_reducible rfl
          rotate_left
          ·simp only [Act.put, xA, xB, xC, i64_w, i32_w]
           rfl
          refine pure_ (i := 1) (N := some 51) (v := ?_) (a' := ?_) #[true, true, false, false, false, false, false] rfl rfl (by kernel_rfl) (fun _ _ _ h => h) (Or.inl ⟨by rfl, ?_⟩) ?_ ?_
          rotate_left
          ·intro w'
           go_simp
           with_reducible rfl
          rotate_left
          ·simp only [Act.put, xA, xB, xC, i64_w, i32_w]
           rfl
          refine pure_ (i := 2) (N := some 52) (v := ?_) (a' := ?_) #[true, true, true, false, false, false, false] rfl rfl (by kernel_rfl) (fun _ _ _ h => h) (Or.inl ⟨by rfl, ?_⟩) ?_ ?_
          rotate_left
          ·intro w'
           go_simp
           with_reducible rfl
          rotate_left
          ·simp only [Act.put, xA, xB, xC, i64_w, i32_w]
           rfl
          refine take_ (i := 3) (N := some 53) (v := ?_) (a' := ?_) #[true, true, true, true, false, false, false] rfl rfl (by kernel_rfl) (fun _ _ _ h => h) (Or.inl ⟨by rfl, ?_⟩) hHeld ?_ ?_
          rotate_left
          ·rintro w' ⟨s0, s1, s2, s3⟩
           go_simp
           with_reducible rfl
          rotate_left
          ·simp only [Act.put, xA, xB, xC, i64_w, i32_w]
           rfl
          refine take_ (i := 4) (N := some 54) (v := ?_) (a' := ?_) #[true, true, true, true, true, false, false] rfl rfl (by kernel_rfl) (fun _ _ _ h => h) (Or.inl ⟨by rfl, ?_⟩) hHeld ?_ ?_
          rotate_left
          ·rintro w' ⟨s0, s1, s2, s3⟩
           go_simp
           with_reducible rfl
          rotate_left
          ·simp only [Act.put, xA, xB, xC, i64_w, i32_w]
           rfl
          refine one_ (i := 5) (N := some 55) #[true, true, true, true, true, true, false] rfl rfl (by kernel_rfl) (by decide) (fun K hK => ?_)
          refine goes_ Try.func27 (by kernel_rfl) rfl #[.slice A265_0 (rd_L2 x3_1 x6_2).length c265_0, .agg #[.int .i64 t261, .int .i64 t262, .int .i64 t263]] (by rfl) rfl rfl zm ?_
          with_reducible refine (spec_l09Index.calls k4 _ _ (rd_L2 x3_1 x6_2) t261 t262 t263 t266 _ ?side1 ?side2 A24.out).mono ?_
          (case side1 => repeat (first | exact (mQ_ HR265_0.out) | (with_reducible refine Kd.C_alloc ?_ _) | (with_reducible refine Kd.C_drewN ?_ _) | (with_reducible refine Kd.C_drew ?_)))
          (case side2 => exact HC265_0.out)
          rintro e w70 ⟨rfl, hb⟩
          have HS3_ := zk hb (hHeld.2.2.2)
          refine ⟨_, rfl, ?_⟩
          have n0_ := aM (Kd.V_below (mV_ HO_3.out) hb)
          have n1_ := aM (Kd.V_below (mV_ HO_5.out) hb)
          have n2_ := aM (Kd.V_below (mV_ HL255_0.out) hb)
          have n3_ := aM (Kd.R_below (mR_ HO259.out) hb)
          have n4_ := aM (Kd.V_below (mV_ HL265_0.out) hb)
          have n5_ := aM (blk_below (g := gb264) (o := .cells #[.int .i64 t261, .int .i64 t262, .int .i64 t263] 43 (0, 0)) (mB_ BK264.out) hb)
          have n6_ := aM (Kd.C_below (mQ_ HR265_0.out) hb)
          have n7_ := aM (below_step (zs GE264.out) hb)
          clear HO_3
          clear HO_5
          clear HL255_0
          clear HO259
          clear HL265_0
          clear BK264
          clear HR265_0
          clear HB
          have HO_3 := n0_
          have HO_5 := n1_
          have HL255_0 := n2_
          have HO259 := n3_
          have HL265_0 := n4_
          have BK264 := n5_
          have HR265_0 := n6_
          have HB := n7_
          clear n0_ n1_ n2_ n3_ n4_ n5_ n6_ n7_
          (try clear hb)
          (try clear hb2)
          (try clear hk)
          (try clear hi)
          refine hK.out _ _ ⟨(blk_cell BK264.out 0).trans rfl, (blk_cell BK264.out 1).trans rfl, (blk_cell BK264.out 2).trans rfl, HS3_⟩ (fun hHeld => ?_)
          clear hK K
          refine norm_ (a' := ?_) ?_ ?_
          rotate_left
          ·show Act.put _ (some 55) _ = _
           simp only [Act.put, xA, xB, xC, i64_w, i32_w]
           rfl
          refine pure_ (i := 6) (N := some 56) (v := ?_) (a' := ?_) #[true, true, true, true, true, true, true] rfl rfl (by kernel_rfl) (fun _ _ _ h => h) (Or.inl ⟨by rfl, ?_⟩) ?_ ?_
          rotate_left
          ·intro w'
           go_simp
           with_reducible rfl
          rotate_left
          ·simp only [Act.put, xA, xB, xC, i64_w, i32_w]
           rfl
          refine done_ (by kernel_rfl) ?_
          try go_wp2
          go_roundg k4
          case measure => have := HK1.out; have := HK2.out; have := HK3.out; have := HK4.out; omega
          case rel => exact ⟨(x5_4), (wrap64 (x8_4 + 1)), zr, H', ⟨by have := HK1.out; have := HK2.out; have := HK3.out; have := HK4.out; omega⟩, ⟨zd23 HO_3.out⟩, ⟨zd23 HO_5.out⟩, ⟨zs GE264.out⟩⟩
         rw [if_pos c25] at H
         have c25b0 : decide (t266 < 0) = true := decide_eq_true c25
         clear c25
         obtain ⟨y267, hy267⟩ : ∃ y_ : List (S43), y_ = (([] : List (S43))) := ⟨_, rfl⟩
         replace H : (if y267.length + (rd_L2 x3_1 x6_2).length < 5864062014805 then ((some (y267 ++ (rd_L2 x3_1 x6_2) : List (S43))).bind fun y271 => ((some (([(⟨t261, t262, t263⟩ : S43)] : List (S43)) : List (S43))).bind fun y274 => (if y271.length + y274.length < 5864062014805 then ((spec_l09Sort.f k4 (y271 ++ y274)).bind fun t280 => ((spec_l09Normal.f k4 t280).bind fun t283 => ((spec_l09Insert.f k4 x5_4 t283).bind fun t286 => (spec_l09All.l3 k4 a0 x3_1 x4_1 t286 x6_2 x7_3 (wrap64 (x8_4 + 1)))))) else (none)))) else (none)) = some r := zy H hy267
         have Ny267 := aM hy267
         clear hy267
         by_cases c26 : y267.length + (rd_L2 x3_1 x6_2).length < 5864062014805
         rotate_left
         ·rw [if_neg c26] at H
          exact absurd H (by simp)
         rw [if_pos c26] at H
         have LMc26 := aM c26
         clear c26
         obtain ⟨y271, hy271⟩ : ∃ y_ : List (S43), y_ = (y267 ++ (rd_L2 x3_1 x6_2)) := ⟨_, rfl⟩
         replace H : ((some (([(⟨t261, t262, t263⟩ : S43)] : List (S43)) : List (S43))).bind fun y274 => (if y271.length + y274.length < 5864062014805 then ((spec_l09Sort.f k4 (y271 ++ y274)).bind fun t280 => ((spec_l09Normal.f k4 t280).bind fun t283 => ((spec_l09Insert.f k4 x5_4 t283).bind fun t286 => (spec_l09All.l3 k4 a0 x3_1 x4_1 t286 x6_2 x7_3 (wrap64 (x8_4 + 1)))))) else (none))) = some r := zy H hy271
         have Ny271 := aM hy271
         clear hy271
         obtain ⟨y274, hy274⟩ : ∃ y_ : List (S43), y_ = (([(⟨t261, t262, t263⟩ : S43)] : List (S43))) := ⟨_, rfl⟩
         replace H : (if y271.length + y274.length < 5864062014805 then ((spec_l09Sort.f k4 (y271 ++ y274)).bind fun t280 => ((spec_l09Normal.f k4 t280).bind fun t283 => ((spec_l09Insert.f k4 x5_4 t283).bind fun t286 => (spec_l09All.l3 k4 a0 x3_1 x4_1 t286 x6_2 x7_3 (wrap64 (x8_4 + 1)))))) else (none)) = some r := zy H hy274
         have Ny274 := aM hy274
         clear hy274
         by_cases c27 : y271.length + y274.length < 5864062014805
         rotate_left
         ·rw [if_neg c27] at H
          exact absurd H (by simp)
         rw [if_pos c27] at H
         have LMc27 := aM c27
         clear c27
         obtain ⟨y277, hy277⟩ : ∃ y_ : List (S43), y_ = (y271 ++ y274) := ⟨_, rfl⟩
         replace H : ((spec_l09Sort.f k4 y277).bind fun t280 => ((spec_l09Normal.f k4 t280).bind fun t283 => ((spec_l09Insert.f k4 x5_4 t283).bind fun t286 => (spec_l09All.l3 k4 a0 x3_1 x4_1 t286 x6_2 x7_3 (wrap64 (x8_4 + 1)))))) = some r := zy H hy277
         have Ny277 := aM hy277
         clear hy277
         replace H := Option.bind_eq_some_iff.mp H
         obtain ⟨t280, A280, H⟩ := H
         replace H : ((spec_l09Normal.f k4 t280).bind fun t283 => ((spec_l09Insert.f k4 x5_4 t283).bind fun t286 => (spec_l09All.l3 k4 a0 x3_1 x4_1 t286 x6_2 x7_3 (wrap64 (x8_4 + 1))))) = some r := H
         have A28 := aM A280
         clear A280
         replace H := Option.bind_eq_some_iff.mp H
         obtain ⟨t283, A290, H⟩ := H
         replace H : ((spec_l09Insert.f k4 x5_4 t283).bind fun t286 => (spec_l09All.l3 k4 a0 x3_1 x4_1 t286 x6_2 x7_3 (wrap64 (x8_4 + 1)))) = some r := H
         have A29 := aM A290
         clear A290
         replace H := Option.bind_eq_some_iff.mp H
         obtain ⟨t286, A300, H⟩ := H
         replace H : (spec_l09All.l3 k4 a0 x3_1 x4_1 t286 x6_2 x7_3 (wrap64 (x8_4 + 1))) = some r := H
         have A30 := aM A300
         clear A300
         have H' := aM H
         clear H
         try go_wp2
         have n0_ := aM (Kd.V_drew HO_3.out)
         have n1_ := aM (Kd.V_drew HO_5.out)
         have n2_ := aM (below_drew1 HB.out)
         clear HO_3
         clear HO_5
         clear HB
         have HO_3 := n0_
         have HO_5 := n1_
         have HB := n2_
         clear n0_ n1_ n2_
         have p255 : 0 ≤ (x6_2 : Int) := of_decide_eq_true za
         have q255 : x6_2 < (x3_1.length : Int) := of_decide_eq_true za
         obtain ⟨ad255, A255_0, c255_0, e255, hx255_0, hl255_0, hi255_0⟩ := at_L2 (Kd.V_reads' HO_3.out).2.2 x6_2 p255 q255
         obtain rfl : ad254 = ad255 := (by injection e255)
         obtain ⟨ce255, hce255, hMe255, hcc255⟩ := Kd.V_get HO_3.out [] x6_2 p255 (by first | exact q255 | exact of_decide_eq_true za | (have e_ := (Kd.V_reads' HO_3.out).1; omega))
         obtain ⟨ua255_0, uc255_0, rfl, ul255_0, ge255_0⟩ := Kd.FK_slice_open hMe255
         have hv255_0 := hcc255 0 _ rfl
         rw [Nat.add_zero, show ((Kd.slice 43 k43)).sz = 1 from rfl, Nat.mul_one] at hv255_0
         replace hv255_0 := Option.some.inj (hv255_0.symm.trans hx255_0)
         injection hv255_0 with hva_ hvn_ hvc_
         rw [hva_] at ge255_0
         rw [hvc_] at ul255_0
         have HL255_0 := aM (show Kd.V k43 43 _ w.heap.size _ _ (rd_L2 x3_1 x6_2) from Kd.V_mk ul255_0 ge255_0)
         clear hva_ hvn_ hvc_ ge255_0 ul255_0
         clear hcc255 hce255
         have HR255_0 := aM hi255_0
         have HC255_0 := aM hl255_0
         clear hi255_0 hl255_0
         replace p255 := eq_true p255
         replace q255 := eq_true q255
         have p256 : 0 ≤ (x7_3 : Int) := of_decide_eq_true za
         have q256 : x7_3 < ((rd_L2 x3_1 x6_2).length : Int) := of_decide_eq_true za
         obtain ⟨ad256, e256, hx256_0, hx256_1, hx256_2⟩ := at_T43 (mQ_ HR255_0.out) x7_3 p256 q256
         cases e256
         replace p256 := eq_true p256
         replace q256 := eq_true q256
         have PV256 := aM (lt9_ (of_eq_true p256) (of_eq_true q256))
         refine start_ (n := 14) (S := fun w' => w'.cell? (ad254.add (x6_2).toNat) = some (.slice (some ad256) (rd_L2 x3_1 x6_2).length c255_0) ∧ w'.cell? (ad256.add ((x7_3).toNat * 3)) = some (.int .i64 ((rd_T43 (rd_L2 x3_1 x6_2) x7_3).f0)) ∧ w'.cell? ⟨(ad256.add ((x7_3).toNat * 3)).block, (ad256.add ((x7_3).toNat * 3)).off + 1, none⟩ = some (.int .i64 ((rd_T43 (rd_L2 x3_1 x6_2) x7_3).f1)) ∧ w'.cell? ⟨(ad256.add ((x7_3).toNat * 3)).block, (ad256.add ((x7_3).toNat * 3)).off + 2, none⟩ = some (.int .i64 ((rd_T43 (rd_L2 x3_1 x6_2) x7_3).f2))) (ds := []) zA70 (by kernel_rfl) rfl rfl ⟨hx255_0, hx256_0, hx256_1, hx256_2⟩ (fun hHeld => ?_); refine with_tabW spec_l09All.tab15 spec_l09All.bits15 (fun HT_ HW_ => ?_)
         generalize wr.drew = w31 at HO_3 HO_5 HB HL255_0 HR255_0 hx255_0 hx256_0 hx256_1 hx256_2 hHeld ⊢
         refine zp 0 (some 38) ?_ zA71 rfl rfl (Or.inl ⟨by rfl, ?_⟩) ?_ ?_ ?_
         rotate_left
         ·intro w'
          go_simp
          with_reducible rfl
         rotate_left
         ·simp only [Act.put, xA, xB, xC, i64_w, i32_w]
          rfl
         refine zp 1 (some 39) ?_ zA72 rfl rfl (Or.inl ⟨by rfl, ?_⟩) ?_ ?_ ?_
         rotate_left
         ·intro w'
          go_simp
          with_reducible rfl
         rotate_left
         ·simp only [Act.put, xA, xB, xC, i64_w, i32_w]
          rfl
         refine zp 2 (some 40) ?_ zA73 rfl rfl (Or.inl ⟨by rfl, ?_⟩) ?_ ?_ ?_
         rotate_left
         ·intro w'
          go_simp
          with_reducible rfl
         rotate_left
         ·simp only [Act.put, xA, xB, xC, i64_w, i32_w]
          rfl
         refine zp 4 (some 42) ?_ zA74 rfl rfl (Or.inl ⟨by rfl, ?_⟩) ?_ ?_ ?_
         rotate_left
         ·intro w'
          go_simp
          with_reducible rfl
         rotate_left
         ·simp only [Act.put, xA, xB, xC, i64_w, i32_w]
          rfl
         refine zp 8 (some 46) ?_ zA75 rfl rfl (Or.inl ⟨by rfl, ?_⟩) ?_ ?_ ?_
         rotate_left
         ·intro w'
          go_simp
          with_reducible rfl
         rotate_left
         ·simp only [Act.put, xA, xB, xC, i64_w, i32_w]
          rfl
         refine zu 3 (some 41) ?_ zA76 rfl rfl (Or.inl ⟨by rfl, ?_⟩) hHeld ?_ ?_ ?_
         rotate_left
         ·rintro w' ⟨s0, s1, s2, s3⟩
          go_simp
          with_reducible rfl
         rotate_left
         ·simp only [Act.put, xA, xB, xC, i64_w, i32_w]
          rfl
         refine zp 5 (some 43) ?_ zA77 rfl rfl (Or.inl ⟨by rfl, ?_⟩) ?_ ?_ ?_
         rotate_left
         ·intro w'
          go_simp
          with_reducible rfl
         rotate_left
         ·simp only [Act.put, xA, xB, xC, i64_w, i32_w]
          rfl
         refine zu 6 (some 44) ?_ zA78 rfl rfl (Or.inl ⟨by rfl, ?_⟩) hHeld ?_ ?_ ?_
         rotate_left
         ·rintro w' ⟨s0, s1, s2, s3⟩
          go_simp
          with_reducible rfl
         rotate_left
         ·simp only [Act.put, xA, xB, xC, i64_w, i32_w]
          rfl
         refine join9_ (σ := (Value × Nat) × Addr) (fun s_ w' => w'.cell? (ad254.add (x6_2).toNat) = some (.slice (some ad256) (rd_L2 x3_1 x6_2).length c255_0) ∧ w'.cell? (ad256.add ((x7_3).toNat * 3)) = some (.int .i64 ((rd_T43 (rd_L2 x3_1 x6_2) x7_3).f0)) ∧ w'.cell? ⟨(ad256.add ((x7_3).toNat * 3)).block, (ad256.add ((x7_3).toNat * 3)).off + 1, none⟩ = some (.int .i64 ((rd_T43 (rd_L2 x3_1 x6_2) x7_3).f1)) ∧ w'.cell? ⟨(ad256.add ((x7_3).toNat * 3)).block, (ad256.add ((x7_3).toNat * 3)).off + 2, none⟩ = some (.int .i64 ((rd_T43 (rd_L2 x3_1 x6_2) x7_3).f2)) ∧ (spec_l09All.d3 w' (s_.2) x8_4 t257)) 1 zA79 (fun s_ => [(45, s_.1.1), (49, .agg #[.int .i64 t261, .int .i64 t262, .int .i64 t263]), (9, .pointer (some ⟨s_.1.2, 0, none⟩)), (47, .pointer (some (s_.2.add ((x8_4).toNat * 3)))), (48, spec_l09All.a3 t257 x8_4)]) (fun s_ w' => (w'.cell? (ad254.add (x6_2).toNat) = some (.slice (some ad256) (rd_L2 x3_1 x6_2).length c255_0) ∧ w'.cell? (ad256.add ((x7_3).toNat * 3)) = some (.int .i64 ((rd_T43 (rd_L2 x3_1 x6_2) x7_3).f0)) ∧ w'.cell? ⟨(ad256.add ((x7_3).toNat * 3)).block, (ad256.add ((x7_3).toNat * 3)).off + 1, none⟩ = some (.int .i64 ((rd_T43 (rd_L2 x3_1 x6_2) x7_3).f1)) ∧ w'.cell? ⟨(ad256.add ((x7_3).toNat * 3)).block, (ad256.add ((x7_3).toNat * 3)).off + 2, none⟩ = some (.int .i64 ((rd_T43 (rd_L2 x3_1 x6_2) x7_3).f2)) ∧ (spec_l09All.d3 w' (s_.2) x8_4 t257)) ∧ (Kd.V k43 43 w' w.heap.size (fun k_ => (w.heap.size ≤ k_) ∧ some k_ ≠ (s_.1.1 : Value).ownBlock ∧ k_ ≠ s_.1.2) (.slice (some ad256) (rd_L2 x3_1 x6_2).length c255_0) (rd_L2 x3_1 x6_2)) ∧ (Kd.R k43 43 w' w.heap.size (fun k_ => (w.heap.size ≤ k_) ∧ k_ ≠ s_.1.2) s_.1.1 t257) ∧ (Kd.V (Kd.slice 43 k43) 40 w' w.heap.size (fun k_ => (w.heap.size ≤ k_) ∧ some k_ ≠ (s_.1.1 : Value).ownBlock ∧ k_ ≠ s_.1.2) (.slice (some ad254) x3_1.length co11) x3_1) ∧ (Kd.V (Kd.slice 43 k43) 40 w' w.heap.size (fun k_ => (w.heap.size ≤ k_) ∧ some k_ ≠ (s_.1.1 : Value).ownBlock ∧ k_ ≠ s_.1.2) u5 x5_4) ∧ (w'.heap[s_.1.2]? = some (.cells #[.int .i64 0, .int .i64 0, .int .i64 0] 43 (0, 0))) ∧ (w.heap.size ≤ s_.1.2) ∧ (w.heap.size ≤ s_.1.2) ∧ (Below w.heap.size w w') ∧ (∃ c9_, s_.1.1 = Value.slice (some s_.2) t257.length c9_)) ?_ ?_
         rotate_left
         ·intro hCont
          refine two_ (i := 7) (j := 12) (Ni := some 45) (Nj := some 9) zA80 zA81 rfl rfl rfl rfl (two_of HT_.out (by kernel_rfl)) (by decide) (by decide) (fun K hK => ?_) (fun K hK => ?_)
          ·skip
           refine goes_ Try.func26 (by kernel_rfl) rfl #[] (by rfl) rfl rfl zm ?_
           with_reducible refine (spec_l09Steps.calls  t257 _ A20.out).mono ?_
           rintro e w32 ⟨v258, rfl, ho0, hb⟩
           have HS0_ := zk hb (hHeld.1)
           have HS1_ := zk hb (hHeld.2.1)
           have HS2_ := zk hb (hHeld.2.2.1)
           have HS3_ := zk hb (hHeld.2.2.2)
           refine ⟨_, rfl, ?_⟩
           have n0_ := aM (Kd.V_elder' (mV_ HO_3.out) (Kd.R_base ho0) hb)
           have n1_ := aM (Kd.V_elder' (mV_ HO_5.out) (Kd.R_base ho0) hb)
           have n2_ := aM (Kd.V_elder' (mV_ HL255_0.out) (Kd.R_base ho0) hb)
           have n3_ := aM (Kd.R_lower (Kd.R_newM (M := fun k_ => (w.heap.size ≤ k_)) ho0 (below_size zb) (fun k_ h_ => h_)) (below_size zb))
           have n4_ := aM (Kd.C_below (mQ_ HR255_0.out) hb)
           have n5_ := aM (below_step zb hb)
           clear HO_3
           clear HO_5
           clear HL255_0
           clear HR255_0
           clear HB
           have HO_3 := n0_
           have HO_5 := n1_
           have HL255_0 := n2_
           have HO259 := n3_
           have HR255_0 := n4_
           have HB := n5_
           clear n0_ n1_ n2_ n3_ n4_ n5_
           (try clear hb)
           (try clear hb2)
           (try clear hk)
           (try clear hi)
           (try clear ho0)
           obtain ⟨Ao33, co33, eo33⟩ := Kd.R_slice HO259.out
           (first | subst eo33 | (injection eo33 with f1_ f2_ f3_; have f4_ := f1_.symm; have f5_ := f3_.symm; clear f1_ f2_ f3_; subst f4_; subst f5_))
           have p260 : 0 ≤ (x8_4 : Int) := of_decide_eq_true za
           have q260 : x8_4 < (t257.length : Int) := of_decide_eq_true za
           obtain ⟨ad260, e260, hx260_0, hx260_1, hx260_2⟩ := at_T43 (Kd.R_reads' HO259.out).2.2 x8_4 p260 q260
           cases e260
           replace p260 := eq_true p260
           replace q260 := eq_true q260
           refine hK.out _ _ ⟨HS0_, HS1_, HS2_, HS3_⟩ (fun hHeld => ?_)
           clear hK K
           refine more_ (S' := fun w' => w'.cell? (ad254.add (x6_2).toNat) = some (.slice (some ad256) (rd_L2 x3_1 x6_2).length c255_0) ∧ w'.cell? (ad256.add ((x7_3).toNat * 3)) = some (.int .i64 ((rd_T43 (rd_L2 x3_1 x6_2) x7_3).f0)) ∧ w'.cell? ⟨(ad256.add ((x7_3).toNat * 3)).block, (ad256.add ((x7_3).toNat * 3)).off + 1, none⟩ = some (.int .i64 ((rd_T43 (rd_L2 x3_1 x6_2) x7_3).f1)) ∧ w'.cell? ⟨(ad256.add ((x7_3).toNat * 3)).block, (ad256.add ((x7_3).toNat * 3)).off + 2, none⟩ = some (.int .i64 ((rd_T43 (rd_L2 x3_1 x6_2) x7_3).f2)) ∧ (spec_l09All.d3 w' ad260 x8_4 t257)) (fun _ h_ => ⟨h_.1, h_.2.1, h_.2.2.1, h_.2.2.2.1⟩) ⟨hHeld.1, hHeld.2.1, hHeld.2.2.1, hHeld.2.2.2, hx260_0, hx260_1, hx260_2⟩ (fun hHeld => ?_)
           refine norm_ (a' := ?_) ?_ ?_
           rotate_left
           ·show Act.put _ (some 45) _ = _
            simp only [Act.put, xA, xB, xC, i64_w, i32_w]
            rfl
           refine zp 9 (some 47) ?_ zA82 rfl rfl (Or.inl ⟨by rfl, ?_⟩) ?_ ?_ ?_
           rotate_left
           ·intro w'
            go_simp
            with_reducible rfl
           rotate_left
           ·simp only [Act.put, xA, xB, xC, i64_w, i32_w]
            rfl
           refine zu 10 (some 48) ?_ zA83 rfl rfl (Or.inl ⟨by rfl, ?_⟩) hHeld ?_ ?_ ?_
           rotate_left
           ·rintro w' ⟨s0, s1, s2, s3, s4, s5, s6⟩
            go_simp
            with_reducible rfl
           rotate_left
           ·simp only [Act.put, xA, xB, xC, i64_w, i32_w]
            rfl
           refine two_ (i := 11) (j := 12) (Ni := some 49) (Nj := some 9) zA84 zA85 rfl rfl rfl rfl (two_of HT_.out (by kernel_rfl)) (by decide) (by decide) (fun K hK => ?_) (fun K hK => ?_)
           ·skip
            refine goes_ Try.func25 (by kernel_rfl) rfl #[.agg #[.int .i64 ((rd_T43 (rd_L2 x3_1 x6_2) x7_3).f0), .int .i64 ((rd_T43 (rd_L2 x3_1 x6_2) x7_3).f1), .int .i64 ((rd_T43 (rd_L2 x3_1 x6_2) x7_3).f2)], spec_l09All.a3 t257 x8_4] (by rfl) rfl rfl zm ?_
            with_reducible refine (spec_l09Add.calls ((rd_T43 (rd_L2 x3_1 x6_2) x7_3).f0) ((rd_T43 (rd_L2 x3_1 x6_2) x7_3).f1) ((rd_T43 (rd_L2 x3_1 x6_2) x7_3).f2) ((rd_T43 t257 x8_4).f0) ((rd_T43 t257 x8_4).f1) ((rd_T43 t257 x8_4).f2) t261 t262 t263 _ A23.out).mono ?_
            rintro e w34 ⟨rfl, hb⟩
            have HS0_ := zk hb (hHeld.1)
            have HS1_ := zk hb (hHeld.2.1)
            have HS2_ := zk hb (hHeld.2.2.1)
            have HS3_ := zk hb (hHeld.2.2.2.1)
            have HS4_ := zk hb (hHeld.2.2.2.2.1)
            have HS5_ := zk hb (hHeld.2.2.2.2.2.1)
            have HS6_ := zk hb (hHeld.2.2.2.2.2.2)
            refine ⟨_, rfl, ?_⟩
            have n0_ := aM (Kd.V_below (mV_ HO_3.out) hb)
            have n1_ := aM (Kd.V_below (mV_ HO_5.out) hb)
            have n2_ := aM (Kd.V_below (mV_ HL255_0.out) hb)
            have n3_ := aM (Kd.R_below (mR_ HO259.out) hb)
            have n4_ := aM (Kd.C_below (mQ_ HR255_0.out) hb)
            have n5_ := aM (below_step zb hb)
            clear HO_3
            clear HO_5
            clear HL255_0
            clear HO259
            clear HR255_0
            clear HB
            have HO_3 := n0_
            have HO_5 := n1_
            have HL255_0 := n2_
            have HO259 := n3_
            have HR255_0 := n4_
            have HB := n5_
            clear n0_ n1_ n2_ n3_ n4_ n5_
            (try clear hb)
            (try clear hb2)
            (try clear hk)
            (try clear hi)
            refine hK.out _ _ ⟨HS0_, HS1_, HS2_, HS3_, HS4_, HS5_, HS6_⟩ (fun hHeld => ?_)
            clear hK K
            refine norm_ (a' := ?_) ?_ ?_
            rotate_left
            ·show Act.put _ (some 49) _ = _
             simp only [Act.put, xA, xB, xC, i64_w, i32_w]
             rfl
            refine one_ (i := 12) (N := some 9) zA79 rfl rfl (one_of HT_.out (by kernel_rfl)) (by decide) (fun K hK => ?_)
            refine box_step ?hg (N := 9) ?hd (cs := #[.int .i64 0, .int .i64 0, .int .i64 0]) (t := 43) ?hr ?_; (case hd => rfl); (case hg => rfl); (case hr => first | (go_simp; done) | (go_simp; rfl))
            intro gb264 hg w35 hbox hb
            have HS0_ := zk hb (hHeld.1)
            have HS1_ := zk hb (hHeld.2.1)
            have HS2_ := zk hb (hHeld.2.2.1)
            have HS3_ := zk hb (hHeld.2.2.2.1)
            have HS4_ := zk hb (hHeld.2.2.2.2.1)
            have HS5_ := zk hb (hHeld.2.2.2.2.2.1)
            have HS6_ := zk hb (hHeld.2.2.2.2.2.2)
            have n0_ := aM (Kd.V_below (Kd.V_elderB (mV_ HO_3.out) gb264 (Nat.le_of_eq hg.symm)) hb)
            have n1_ := aM (Kd.V_below (Kd.V_elderB (mV_ HO_5.out) gb264 (Nat.le_of_eq hg.symm)) hb)
            have n2_ := aM (Kd.V_below (Kd.V_elderB (mV_ HL255_0.out) gb264 (Nat.le_of_eq hg.symm)) hb)
            have n3_ := aM (Kd.R_below (Kd.R_elderB (mR_ HO259.out) gb264 (Nat.le_of_eq hg.symm)) hb)
            have n4_ := aM (Kd.C_below (mQ_ HR255_0.out) hb)
            have n5_ := aM (below_step zb hb)
            have n6_ := aM (hbox)
            have n7_ := aM ((ze : w.heap.size ≤ gb264))
            have n8_ := aM ((ze : w.heap.size ≤ gb264))
            clear HO_3
            clear HO_5
            clear HL255_0
            clear HO259
            clear HR255_0
            clear HB
            have HO_3 := n0_
            have HO_5 := n1_
            have HL255_0 := n2_
            have HO259 := n3_
            have HR255_0 := n4_
            have HB := n5_
            have BK264 := n6_
            have GW264 := n7_
            have GE264 := n8_
            clear n0_ n1_ n2_ n3_ n4_ n5_ n6_ n7_ n8_
            clear hb hbox hg
            refine hK.out _ _ ⟨HS0_, HS1_, HS2_, HS3_, HS4_, HS5_, HS6_⟩ (fun hHeld => ?_)
            clear hK K
            refine norm_ (a' := ?_) ?_ ?_
            rotate_left
            ·show Act.put _ (some 9) _ = _
             simp only [Act.put, xA, xB, xC, i64_w, i32_w]
             rfl
            exact norm_ (by simp only [putAll, Act.put, xA, xB, xC]) (hCont ((.slice (some ad260) t257.length co33, gb264), ad260) _ ⟨hHeld, (zd0 HL255_0.out), (zd10 HO259.out), (zd0 HO_3.out), (zd0 HO_5.out), (mB_ BK264.out), GW264.out, GE264.out, (zs GE264.out), ⟨_, rfl⟩⟩)
           ·skip
            refine box_step ?hg (N := 9) ?hd (cs := #[.int .i64 0, .int .i64 0, .int .i64 0]) (t := 43) ?hr ?_; (case hd => rfl); (case hg => rfl); (case hr => first | (go_simp; done) | (go_simp; rfl))
            intro gb264 hg w34 hbox hb
            have HS0_ := zk hb (hHeld.1)
            have HS1_ := zk hb (hHeld.2.1)
            have HS2_ := zk hb (hHeld.2.2.1)
            have HS3_ := zk hb (hHeld.2.2.2.1)
            have HS4_ := zk hb (hHeld.2.2.2.2.1)
            have HS5_ := zk hb (hHeld.2.2.2.2.2.1)
            have HS6_ := zk hb (hHeld.2.2.2.2.2.2)
            have n0_ := aM (Kd.V_below (Kd.V_elderB (mV_ HO_3.out) gb264 (Nat.le_of_eq hg.symm)) hb)
            have n1_ := aM (Kd.V_below (Kd.V_elderB (mV_ HO_5.out) gb264 (Nat.le_of_eq hg.symm)) hb)
            have n2_ := aM (Kd.V_below (Kd.V_elderB (mV_ HL255_0.out) gb264 (Nat.le_of_eq hg.symm)) hb)
            have n3_ := aM (Kd.R_below (Kd.R_elderB (mR_ HO259.out) gb264 (Nat.le_of_eq hg.symm)) hb)
            have n4_ := aM (Kd.C_below (mQ_ HR255_0.out) hb)
            have n5_ := aM (below_step zb hb)
            have n6_ := aM (hbox)
            have n7_ := aM ((ze : w.heap.size ≤ gb264))
            have n8_ := aM ((ze : w.heap.size ≤ gb264))
            clear HO_3
            clear HO_5
            clear HL255_0
            clear HO259
            clear HR255_0
            clear HB
            have HO_3 := n0_
            have HO_5 := n1_
            have HL255_0 := n2_
            have HO259 := n3_
            have HR255_0 := n4_
            have HB := n5_
            have BK264 := n6_
            have GW264 := n7_
            have GE264 := n8_
            clear n0_ n1_ n2_ n3_ n4_ n5_ n6_ n7_ n8_
            clear hb hbox hg
            refine hK.out _ _ ⟨HS0_, HS1_, HS2_, HS3_, HS4_, HS5_, HS6_⟩ (fun hHeld => ?_)
            clear hK K
            refine norm_ (a' := ?_) ?_ ?_
            rotate_left
            ·show Act.put _ (some 9) _ = _
             simp only [Act.put, xA, xB, xC, i64_w, i32_w]
             rfl
            refine one_ (i := 11) (N := some 49) zA79 rfl rfl (one_of HT_.out (by kernel_rfl)) (by decide) (fun K hK => ?_)
            refine goes_ Try.func25 (by kernel_rfl) rfl #[.agg #[.int .i64 ((rd_T43 (rd_L2 x3_1 x6_2) x7_3).f0), .int .i64 ((rd_T43 (rd_L2 x3_1 x6_2) x7_3).f1), .int .i64 ((rd_T43 (rd_L2 x3_1 x6_2) x7_3).f2)], spec_l09All.a3 t257 x8_4] (by rfl) rfl rfl zm ?_
            with_reducible refine (spec_l09Add.calls ((rd_T43 (rd_L2 x3_1 x6_2) x7_3).f0) ((rd_T43 (rd_L2 x3_1 x6_2) x7_3).f1) ((rd_T43 (rd_L2 x3_1 x6_2) x7_3).f2) ((rd_T43 t257 x8_4).f0) ((rd_T43 t257 x8_4).f1) ((rd_T43 t257 x8_4).f2) t261 t262 t263 _ A23.out).mono ?_
            rintro e w35 ⟨rfl, hb⟩
            have HS0_ := zk hb (hHeld.1)
            have HS1_ := zk hb (hHeld.2.1)
            have HS2_ := zk hb (hHeld.2.2.1)
            have HS3_ := zk hb (hHeld.2.2.2.1)
            have HS4_ := zk hb (hHeld.2.2.2.2.1)
            have HS5_ := zk hb (hHeld.2.2.2.2.2.1)
            have HS6_ := zk hb (hHeld.2.2.2.2.2.2)
            refine ⟨_, rfl, ?_⟩
            have n0_ := aM (Kd.V_below (mV_ HO_3.out) hb)
            have n1_ := aM (Kd.V_below (mV_ HO_5.out) hb)
            have n2_ := aM (Kd.V_below (mV_ HL255_0.out) hb)
            have n3_ := aM (Kd.R_below (mR_ HO259.out) hb)
            have n4_ := aM (Kd.C_below (mQ_ HR255_0.out) hb)
            have n5_ := aM (blk_below (g := gb264) (o := .cells #[.int .i64 0, .int .i64 0, .int .i64 0] 43 (0, 0)) (mB_ BK264.out) hb)
            have n6_ := aM (below_step (zs GE264.out) hb)
            clear HO_3
            clear HO_5
            clear HL255_0
            clear HO259
            clear HR255_0
            clear BK264
            clear HB
            have HO_3 := n0_
            have HO_5 := n1_
            have HL255_0 := n2_
            have HO259 := n3_
            have HR255_0 := n4_
            have BK264 := n5_
            have HB := n6_
            clear n0_ n1_ n2_ n3_ n4_ n5_ n6_
            (try clear hb)
            (try clear hb2)
            (try clear hk)
            (try clear hi)
            refine hK.out _ _ ⟨HS0_, HS1_, HS2_, HS3_, HS4_, HS5_, HS6_⟩ (fun hHeld => ?_)
            clear hK K
            refine norm_ (a' := ?_) ?_ ?_
            rotate_left
            ·show Act.put _ (some 49) _ = _
             simp only [Act.put, xA, xB, xC, i64_w, i32_w]
             rfl
            exact norm_ (by simp only [putAll, Act.put, xA, xB, xC]) (hCont ((.slice (some ad260) t257.length co33, gb264), ad260) _ ⟨hHeld, (zd0 HL255_0.out), (zd10 HO259.out), (zd0 HO_3.out), (zd0 HO_5.out), (mB_ BK264.out), GW264.out, GE264.out, (zs GE264.out), ⟨_, rfl⟩⟩)
          ·skip
           refine box_step ?hg (N := 9) ?hd (cs := #[.int .i64 0, .int .i64 0, .int .i64 0]) (t := 43) ?hr ?_; (case hd => rfl); (case hg => rfl); (case hr => first | (go_simp; done) | (go_simp; rfl))
           intro gb264 hg w32 hbox hb
           have HS0_ := zk hb (hHeld.1)
           have HS1_ := zk hb (hHeld.2.1)
           have HS2_ := zk hb (hHeld.2.2.1)
           have HS3_ := zk hb (hHeld.2.2.2)
           have n0_ := aM (Kd.V_below (Kd.V_elderB (mV_ HO_3.out) gb264 (Nat.le_of_eq hg.symm)) hb)
           have n1_ := aM (Kd.V_below (Kd.V_elderB (mV_ HO_5.out) gb264 (Nat.le_of_eq hg.symm)) hb)
           have n2_ := aM (Kd.V_below (Kd.V_elderB (mV_ HL255_0.out) gb264 (Nat.le_of_eq hg.symm)) hb)
           have n3_ := aM (Kd.C_below (mQ_ HR255_0.out) hb)
           have n4_ := aM (below_step zb hb)
           have n5_ := aM (hbox)
           have n6_ := aM ((ze : w.heap.size ≤ gb264))
           have n7_ := aM ((ze : w.heap.size ≤ gb264))
           clear HO_3
           clear HO_5
           clear HL255_0
           clear HR255_0
           clear HB
           have HO_3 := n0_
           have HO_5 := n1_
           have HL255_0 := n2_
           have HR255_0 := n3_
           have HB := n4_
           have BK264 := n5_
           have GW264 := n6_
           have GE264 := n7_
           clear n0_ n1_ n2_ n3_ n4_ n5_ n6_ n7_
           clear hb hbox hg
           refine hK.out _ _ ⟨HS0_, HS1_, HS2_, HS3_⟩ (fun hHeld => ?_)
           clear hK K
           refine norm_ (a' := ?_) ?_ ?_
           rotate_left
           ·show Act.put _ (some 9) _ = _
            simp only [Act.put, xA, xB, xC, i64_w, i32_w]
            rfl
           refine one_ (i := 7) (N := some 45) zA86 rfl rfl (one_of HT_.out (by kernel_rfl)) (by decide) (fun K hK => ?_)
           refine goes_ Try.func26 (by kernel_rfl) rfl #[] (by rfl) rfl rfl zm ?_
           with_reducible refine (spec_l09Steps.calls  t257 _ A20.out).mono ?_
           rintro e w33 ⟨v258, rfl, ho0, hb⟩
           have HS0_ := zk hb (hHeld.1)
           have HS1_ := zk hb (hHeld.2.1)
           have HS2_ := zk hb (hHeld.2.2.1)
           have HS3_ := zk hb (hHeld.2.2.2)
           refine ⟨_, rfl, ?_⟩
           have n0_ := aM (Kd.V_elder' (mV_ HO_3.out) (Kd.R_base ho0) hb)
           have n1_ := aM (Kd.V_elder' (mV_ HO_5.out) (Kd.R_base ho0) hb)
           have n2_ := aM (Kd.V_elder' (mV_ HL255_0.out) (Kd.R_base ho0) hb)
           have n3_ := aM (Kd.R_lower (Kd.R_newB (Kd.R_newM (M := fun k_ => (w.heap.size ≤ k_)) ho0 (below_size (zs GE264.out)) (fun k_ h_ => h_)) (g := gb264) (o := .cells #[.int .i64 0, .int .i64 0, .int .i64 0] 43 (0, 0)) (mB_ BK264.out)) (below_size (zs GE264.out)))
           have n4_ := aM (Kd.C_below (mQ_ HR255_0.out) hb)
           have n5_ := aM (blk_below (g := gb264) (o := .cells #[.int .i64 0, .int .i64 0, .int .i64 0] 43 (0, 0)) (mB_ BK264.out) hb)
           have n6_ := aM (below_step (zs GE264.out) hb)
           clear HO_3
           clear HO_5
           clear HL255_0
           clear HR255_0
           clear BK264
           clear HB
           have HO_3 := n0_
           have HO_5 := n1_
           have HL255_0 := n2_
           have HO259 := n3_
           have HR255_0 := n4_
           have BK264 := n5_
           have HB := n6_
           clear n0_ n1_ n2_ n3_ n4_ n5_ n6_
           (try clear hb)
           (try clear hb2)
           (try clear hk)
           (try clear hi)
           (try clear ho0)
           obtain ⟨Ao34, co34, eo34⟩ := Kd.R_slice HO259.out
           (first | subst eo34 | (injection eo34 with f1_ f2_ f3_; have f4_ := f1_.symm; have f5_ := f3_.symm; clear f1_ f2_ f3_; subst f4_; subst f5_))
           have p260 : 0 ≤ (x8_4 : Int) := of_decide_eq_true za
           have q260 : x8_4 < (t257.length : Int) := of_decide_eq_true za
           obtain ⟨ad260, e260, hx260_0, hx260_1, hx260_2⟩ := at_T43 (Kd.R_reads' HO259.out).2.2 x8_4 p260 q260
           cases e260
           replace p260 := eq_true p260
           replace q260 := eq_true q260
           refine hK.out _ _ ⟨HS0_, HS1_, HS2_, HS3_⟩ (fun hHeld => ?_)
           clear hK K
           refine more_ (S' := fun w' => w'.cell? (ad254.add (x6_2).toNat) = some (.slice (some ad256) (rd_L2 x3_1 x6_2).length c255_0) ∧ w'.cell? (ad256.add ((x7_3).toNat * 3)) = some (.int .i64 ((rd_T43 (rd_L2 x3_1 x6_2) x7_3).f0)) ∧ w'.cell? ⟨(ad256.add ((x7_3).toNat * 3)).block, (ad256.add ((x7_3).toNat * 3)).off + 1, none⟩ = some (.int .i64 ((rd_T43 (rd_L2 x3_1 x6_2) x7_3).f1)) ∧ w'.cell? ⟨(ad256.add ((x7_3).toNat * 3)).block, (ad256.add ((x7_3).toNat * 3)).off + 2, none⟩ = some (.int .i64 ((rd_T43 (rd_L2 x3_1 x6_2) x7_3).f2)) ∧ (spec_l09All.d3 w' ad260 x8_4 t257)) (fun _ h_ => ⟨h_.1, h_.2.1, h_.2.2.1, h_.2.2.2.1⟩) ⟨hHeld.1, hHeld.2.1, hHeld.2.2.1, hHeld.2.2.2, hx260_0, hx260_1, hx260_2⟩ (fun hHeld => ?_)
           refine norm_ (a' := ?_) ?_ ?_
           rotate_left
           ·show Act.put _ (some 45) _ = _
            simp only [Act.put, xA, xB, xC, i64_w, i32_w]
            rfl
           refine zp 9 (some 47) ?_ zA87 rfl rfl (Or.inl ⟨by rfl, ?_⟩) ?_ ?_ ?_
           rotate_left
           ·intro w'
            go_simp
            with_reducible rfl
           rotate_left
           ·simp only [Act.put, xA, xB, xC, i64_w, i32_w]
            rfl
           refine zu 10 (some 48) ?_ zA85 rfl rfl (Or.inl ⟨by rfl, ?_⟩) hHeld ?_ ?_ ?_
           rotate_left
           ·rintro w' ⟨s0, s1, s2, s3, s4, s5, s6⟩
            go_simp
            with_reducible rfl
           rotate_left
           ·simp only [Act.put, xA, xB, xC, i64_w, i32_w]
            rfl
           refine one_ (i := 11) (N := some 49) zA79 rfl rfl (one_of HT_.out (by kernel_rfl)) (by decide) (fun K hK => ?_)
           refine goes_ Try.func25 (by kernel_rfl) rfl #[.agg #[.int .i64 ((rd_T43 (rd_L2 x3_1 x6_2) x7_3).f0), .int .i64 ((rd_T43 (rd_L2 x3_1 x6_2) x7_3).f1), .int .i64 ((rd_T43 (rd_L2 x3_1 x6_2) x7_3).f2)], spec_l09All.a3 t257 x8_4] (by rfl) rfl rfl zm ?_
           with_reducible refine (spec_l09Add.calls ((rd_T43 (rd_L2 x3_1 x6_2) x7_3).f0) ((rd_T43 (rd_L2 x3_1 x6_2) x7_3).f1) ((rd_T43 (rd_L2 x3_1 x6_2) x7_3).f2) ((rd_T43 t257 x8_4).f0) ((rd_T43 t257 x8_4).f1) ((rd_T43 t257 x8_4).f2) t261 t262 t263 _ A23.out).mono ?_
           rintro e w35 ⟨rfl, hb⟩
           have HS0_ := zk hb (hHeld.1)
           have HS1_ := zk hb (hHeld.2.1)
           have HS2_ := zk hb (hHeld.2.2.1)
           have HS3_ := zk hb (hHeld.2.2.2.1)
           have HS4_ := zk hb (hHeld.2.2.2.2.1)
           have HS5_ := zk hb (hHeld.2.2.2.2.2.1)
           have HS6_ := zk hb (hHeld.2.2.2.2.2.2)
           refine ⟨_, rfl, ?_⟩
           have n0_ := aM (Kd.V_below (mV_ HO_3.out) hb)
           have n1_ := aM (Kd.V_below (mV_ HO_5.out) hb)
           have n2_ := aM (Kd.V_below (mV_ HL255_0.out) hb)
           have n3_ := aM (Kd.R_below (mR_ HO259.out) hb)
           have n4_ := aM (Kd.C_below (mQ_ HR255_0.out) hb)
           have n5_ := aM (blk_below (g := gb264) (o := .cells #[.int .i64 0, .int .i64 0, .int .i64 0] 43 (0, 0)) (mB_ BK264.out) hb)
           have n6_ := aM (below_step (zs GE264.out) hb)
           clear HO_3
           clear HO_5
           clear HL255_0
           clear HO259
           clear HR255_0
           clear BK264
           clear HB
           have HO_3 := n0_
           have HO_5 := n1_
           have HL255_0 := n2_
           have HO259 := n3_
           have HR255_0 := n4_
           have BK264 := n5_
           have HB := n6_
           clear n0_ n1_ n2_ n3_ n4_ n5_ n6_
           (try clear hb)
           (try clear hb2)
           (try clear hk)
           (try clear hi)
           refine hK.out _ _ ⟨HS0_, HS1_, HS2_, HS3_, HS4_, HS5_, HS6_⟩ (fun hHeld => ?_)
           clear hK K
           refine norm_ (a' := ?_) ?_ ?_
           rotate_left
           ·show Act.put _ (some 49) _ = _
            simp only [Act.put, xA, xB, xC, i64_w, i32_w]
            rfl
           exact norm_ (by simp only [putAll, Act.put, xA, xB, xC]) (hCont ((.slice (some ad260) t257.length co34, gb264), ad260) _ ⟨hHeld, (zd2 HL255_0.out), (zd10 HO259.out), (zd2 HO_3.out), (zd2 HO_5.out), (mB_ BK264.out), GW264.out, GE264.out, (zs GE264.out), ⟨_, rfl⟩⟩)
         rintro ⟨⟨v258, gb264⟩, ad260⟩ w36 ⟨hS_, h0_, h1_, h2_, h3_, h4_, h5_, h6_, h7_, ⟨c9_, hE9_⟩⟩
         replace hE9_ : v258 = Value.slice (some ad260) t257.length c9_ := hE9_
         subst hE9_
         have p260 : 0 ≤ (x8_4 : Int) := of_decide_eq_true za
         replace p260 := eq_true p260
         have q260 : x8_4 < (t257.length : Int) := of_decide_eq_true za
         replace q260 := eq_true q260
         refine more_ (S' := fun w' => w'.cell? (ad254.add (x6_2).toNat) = some (.slice (some ad256) (rd_L2 x3_1 x6_2).length c255_0) ∧ w'.cell? (ad256.add ((x7_3).toNat * 3)) = some (.int .i64 ((rd_T43 (rd_L2 x3_1 x6_2) x7_3).f0)) ∧ w'.cell? ⟨(ad256.add ((x7_3).toNat * 3)).block, (ad256.add ((x7_3).toNat * 3)).off + 1, none⟩ = some (.int .i64 ((rd_T43 (rd_L2 x3_1 x6_2) x7_3).f1)) ∧ w'.cell? ⟨(ad256.add ((x7_3).toNat * 3)).block, (ad256.add ((x7_3).toNat * 3)).off + 2, none⟩ = some (.int .i64 ((rd_T43 (rd_L2 x3_1 x6_2) x7_3).f2)) ∧ (spec_l09All.d3 w' ad260 x8_4 t257)) (fun _ h_ => h_) hS_ (fun hS_ => ?_)
         have n0_ : Aside0 (Kd.V k43 43 w36 w.heap.size (fun k_ => (w.heap.size ≤ k_) ∧ some k_ ≠ ((.slice (some ad260) t257.length c9_) : Value).ownBlock ∧ k_ ≠ gb264) (.slice (some ad256) (rd_L2 x3_1 x6_2).length c255_0) (rd_L2 x3_1 x6_2)) := ⟨h0_⟩
         have n1_ : Aside0 (Kd.R k43 43 w36 w.heap.size (fun k_ => (w.heap.size ≤ k_) ∧ k_ ≠ gb264) (.slice (some ad260) t257.length c9_) t257) := ⟨h1_⟩
         have n2_ : Aside0 (Kd.V (Kd.slice 43 k43) 40 w36 w.heap.size (fun k_ => (w.heap.size ≤ k_) ∧ some k_ ≠ ((.slice (some ad260) t257.length c9_) : Value).ownBlock ∧ k_ ≠ gb264) (.slice (some ad254) x3_1.length co11) x3_1) := ⟨h2_⟩
         have n3_ : Aside0 (Kd.V (Kd.slice 43 k43) 40 w36 w.heap.size (fun k_ => (w.heap.size ≤ k_) ∧ some k_ ≠ ((.slice (some ad260) t257.length c9_) : Value).ownBlock ∧ k_ ≠ gb264) u5 x5_4) := ⟨h3_⟩
         have n4_ : Aside0 (w36.heap[gb264]? = some (.cells #[.int .i64 0, .int .i64 0, .int .i64 0] 43 (0, 0))) := ⟨h4_⟩
         have n5_ : Aside0 (w.heap.size ≤ gb264) := ⟨h5_⟩
         have n6_ : Aside0 (w.heap.size ≤ gb264) := ⟨h6_⟩
         have n7_ : Aside0 (Below w.heap.size w w36) := ⟨h7_⟩
         clear HO_3
         clear HO_5
         clear HB
         clear h0_ h1_ h2_ h3_ h4_ h5_ h6_ h7_
         have HL255_0 := n0_
         have HO259 := n1_
         have HO_3 := n2_
         have HO_5 := n3_
         have BK264 := n4_
         have GW264 := n5_
         have GE264 := n6_
         have HB := n7_
         clear n0_ n1_ n2_ n3_ n4_ n5_ n6_ n7_
         have hHeld : w36.cell? (ad254.add (x6_2).toNat) = some (.slice (some ad256) (rd_L2 x3_1 x6_2).length c255_0) ∧ w36.cell? (ad256.add ((x7_3).toNat * 3)) = some (.int .i64 ((rd_T43 (rd_L2 x3_1 x6_2) x7_3).f0)) ∧ w36.cell? ⟨(ad256.add ((x7_3).toNat * 3)).block, (ad256.add ((x7_3).toNat * 3)).off + 1, none⟩ = some (.int .i64 ((rd_T43 (rd_L2 x3_1 x6_2) x7_3).f1)) ∧ w36.cell? ⟨(ad256.add ((x7_3).toNat * 3)).block, (ad256.add ((x7_3).toNat * 3)).off + 2, none⟩ = some (.int .i64 ((rd_T43 (rd_L2 x3_1 x6_2) x7_3).f2)) ∧ (spec_l09All.d3 w36 ad260 x8_4 t257) := hS_
         refine norm_ (a' := ?_) ?_ ?_
         rotate_left
         ·simp only [putAll, Act.put, xA, xB, xC]
          rfl
         refine one_ (i := 13) (N := none) zA88 rfl rfl (one_of HT_.out (by kernel_rfl)) (by decide) (fun K hK => ?_)
         have hs37 : w36.cell? ⟨gb264, 0, none⟩ = some (.int .i64 0) := (blk_cell BK264.out 0).trans rfl
         have hfs37 := blk_frozen BK264.out 0
         have hs38 : w36.cell? ⟨gb264, 1, none⟩ = some (.int .i64 0) := (blk_cell BK264.out 1).trans rfl
         have hfs38 := blk_frozen BK264.out 1
         have hs39 : w36.cell? ⟨gb264, 2, none⟩ = some (.int .i64 0) := (blk_cell BK264.out 2).trans rfl
         have hfs39 := blk_frozen BK264.out 2
         refine skip_ (w1 := ?_) (by rfl) rfl ?_ ?_
         rotate_left
         ·go_simp
          rfl
         refine hK.out _ _ ⟨((cell_far (p := ⟨gb264, _, none⟩) (by first | exact V_ne9_ HO_3.out (by decide) PV254.out (fun _ hk => hk.2.2) | (rw [add_block]; exact V_ne9_ HO_3.out (by decide) PV254.out (fun _ hk => hk.2.2)) | (show (Addr.add _ _).block ≠ _; rw [add_block]; exact V_ne9_ HO_3.out (by decide) PV254.out (fun _ hk => hk.2.2)) | (dsimp only; exact V_ne9_ HO_3.out (by decide) PV254.out (fun _ hk => hk.2.2))) _).trans (((cell_far (p := ⟨gb264, _, none⟩) (by first | exact V_ne9_ HO_3.out (by decide) PV254.out (fun _ hk => hk.2.2) | (rw [add_block]; exact V_ne9_ HO_3.out (by decide) PV254.out (fun _ hk => hk.2.2)) | (show (Addr.add _ _).block ≠ _; rw [add_block]; exact V_ne9_ HO_3.out (by decide) PV254.out (fun _ hk => hk.2.2)) | (dsimp only; exact V_ne9_ HO_3.out (by decide) PV254.out (fun _ hk => hk.2.2))) _).trans (((cell_far (p := ⟨gb264, _, none⟩) (by first | exact V_ne9_ HO_3.out (by decide) PV254.out (fun _ hk => hk.2.2) | (rw [add_block]; exact V_ne9_ HO_3.out (by decide) PV254.out (fun _ hk => hk.2.2)) | (show (Addr.add _ _).block ≠ _; rw [add_block]; exact V_ne9_ HO_3.out (by decide) PV254.out (fun _ hk => hk.2.2)) | (dsimp only; exact V_ne9_ HO_3.out (by decide) PV254.out (fun _ hk => hk.2.2))) _).trans (hHeld.1)))))), ((cell_far (p := ⟨gb264, _, none⟩) (by first | exact V_ne9_ HL255_0.out (by decide) PV256.out (fun _ hk => hk.2.2) | (rw [add_block]; exact V_ne9_ HL255_0.out (by decide) PV256.out (fun _ hk => hk.2.2)) | (show (Addr.add _ _).block ≠ _; rw [add_block]; exact V_ne9_ HL255_0.out (by decide) PV256.out (fun _ hk => hk.2.2)) | (dsimp only; exact V_ne9_ HL255_0.out (by decide) PV256.out (fun _ hk => hk.2.2))) _).trans (((cell_far (p := ⟨gb264, _, none⟩) (by first | exact V_ne9_ HL255_0.out (by decide) PV256.out (fun _ hk => hk.2.2) | (rw [add_block]; exact V_ne9_ HL255_0.out (by decide) PV256.out (fun _ hk => hk.2.2)) | (show (Addr.add _ _).block ≠ _; rw [add_block]; exact V_ne9_ HL255_0.out (by decide) PV256.out (fun _ hk => hk.2.2)) | (dsimp only; exact V_ne9_ HL255_0.out (by decide) PV256.out (fun _ hk => hk.2.2))) _).trans (((cell_far (p := ⟨gb264, _, none⟩) (by first | exact V_ne9_ HL255_0.out (by decide) PV256.out (fun _ hk => hk.2.2) | (rw [add_block]; exact V_ne9_ HL255_0.out (by decide) PV256.out (fun _ hk => hk.2.2)) | (show (Addr.add _ _).block ≠ _; rw [add_block]; exact V_ne9_ HL255_0.out (by decide) PV256.out (fun _ hk => hk.2.2)) | (dsimp only; exact V_ne9_ HL255_0.out (by decide) PV256.out (fun _ hk => hk.2.2))) _).trans (hHeld.2.1)))))), ((cell_far (p := ⟨gb264, _, none⟩) (by first | exact V_ne9_ HL255_0.out (by decide) PV256.out (fun _ hk => hk.2.2) | (rw [add_block]; exact V_ne9_ HL255_0.out (by decide) PV256.out (fun _ hk => hk.2.2)) | (show (Addr.add _ _).block ≠ _; rw [add_block]; exact V_ne9_ HL255_0.out (by decide) PV256.out (fun _ hk => hk.2.2)) | (dsimp only; exact V_ne9_ HL255_0.out (by decide) PV256.out (fun _ hk => hk.2.2))) _).trans (((cell_far (p := ⟨gb264, _, none⟩) (by first | exact V_ne9_ HL255_0.out (by decide) PV256.out (fun _ hk => hk.2.2) | (rw [add_block]; exact V_ne9_ HL255_0.out (by decide) PV256.out (fun _ hk => hk.2.2)) | (show (Addr.add _ _).block ≠ _; rw [add_block]; exact V_ne9_ HL255_0.out (by decide) PV256.out (fun _ hk => hk.2.2)) | (dsimp only; exact V_ne9_ HL255_0.out (by decide) PV256.out (fun _ hk => hk.2.2))) _).trans (((cell_far (p := ⟨gb264, _, none⟩) (by first | exact V_ne9_ HL255_0.out (by decide) PV256.out (fun _ hk => hk.2.2) | (rw [add_block]; exact V_ne9_ HL255_0.out (by decide) PV256.out (fun _ hk => hk.2.2)) | (show (Addr.add _ _).block ≠ _; rw [add_block]; exact V_ne9_ HL255_0.out (by decide) PV256.out (fun _ hk => hk.2.2)) | (dsimp only; exact V_ne9_ HL255_0.out (by decide) PV256.out (fun _ hk => hk.2.2))) _).trans (hHeld.2.2.1)))))), ((cell_far (p := ⟨gb264, _, none⟩) (by first | exact V_ne9_ HL255_0.out (by decide) PV256.out (fun _ hk => hk.2.2) | (rw [add_block]; exact V_ne9_ HL255_0.out (by decide) PV256.out (fun _ hk => hk.2.2)) | (show (Addr.add _ _).block ≠ _; rw [add_block]; exact V_ne9_ HL255_0.out (by decide) PV256.out (fun _ hk => hk.2.2)) | (dsimp only; exact V_ne9_ HL255_0.out (by decide) PV256.out (fun _ hk => hk.2.2))) _).trans (((cell_far (p := ⟨gb264, _, none⟩) (by first | exact V_ne9_ HL255_0.out (by decide) PV256.out (fun _ hk => hk.2.2) | (rw [add_block]; exact V_ne9_ HL255_0.out (by decide) PV256.out (fun _ hk => hk.2.2)) | (show (Addr.add _ _).block ≠ _; rw [add_block]; exact V_ne9_ HL255_0.out (by decide) PV256.out (fun _ hk => hk.2.2)) | (dsimp only; exact V_ne9_ HL255_0.out (by decide) PV256.out (fun _ hk => hk.2.2))) _).trans (((cell_far (p := ⟨gb264, _, none⟩) (by first | exact V_ne9_ HL255_0.out (by decide) PV256.out (fun _ hk => hk.2.2) | (rw [add_block]; exact V_ne9_ HL255_0.out (by decide) PV256.out (fun _ hk => hk.2.2)) | (show (Addr.add _ _).block ≠ _; rw [add_block]; exact V_ne9_ HL255_0.out (by decide) PV256.out (fun _ hk => hk.2.2)) | (dsimp only; exact V_ne9_ HL255_0.out (by decide) PV256.out (fun _ hk => hk.2.2))) _).trans (hHeld.2.2.2.1)))))), ((cell_far (p := ⟨gb264, _, none⟩) (zd30 HO259.out) _).trans (((cell_far (p := ⟨gb264, _, none⟩) (zd30 HO259.out) _).trans (((cell_far (p := ⟨gb264, _, none⟩) (zd30 HO259.out) _).trans (hHeld.2.2.2.2.1)))))), ((cell_far (p := ⟨gb264, _, none⟩) (zd30 HO259.out) _).trans (((cell_far (p := ⟨gb264, _, none⟩) (zd30 HO259.out) _).trans (((cell_far (p := ⟨gb264, _, none⟩) (zd30 HO259.out) _).trans (hHeld.2.2.2.2.2.1)))))), ((cell_far (p := ⟨gb264, _, none⟩) (zd30 HO259.out) _).trans (((cell_far (p := ⟨gb264, _, none⟩) (zd30 HO259.out) _).trans (((cell_far (p := ⟨gb264, _, none⟩) (zd30 HO259.out) _).trans (hHeld.2.2.2.2.2.2))))))⟩ (fun hHeld => ?_)
         clear hK K
         refine done_ (done_of HT_.out (by kernel_rfl)) ?_
         try go_wp2
         have n0_ : Aside0 (Kd.V (Kd.slice 43 k43) 40 (((w36.setCell ⟨gb264, 0, none⟩ (.int .i64 t261)).setCell ⟨gb264, 1, none⟩ (.int .i64 t262)).setCell ⟨gb264, 2, none⟩ (.int .i64 t263)) w.heap.size (fun k_ => (w.heap.size ≤ k_) ∧ some k_ ≠ ((.slice (some ad260) t257.length c9_) : Value).ownBlock ∧ k_ ≠ gb264) (.slice (some ad254) x3_1.length co11) x3_1) := ⟨by (with_reducible repeat (first | apply Kd.V_alloc | apply Kd.V_drewN | apply Kd.V_drew)); exact Kd.V_mono (Kd.V_far (p := ⟨gb264, 2, none⟩) (Kd.V_far (p := ⟨gb264, 1, none⟩) (Kd.V_far (p := ⟨gb264, 0, none⟩) (Kd.V_mono HO_3.out (fun k_ hk => (⟨hk, hk.2.2⟩ : _ ∧ k_ ≠ gb264))) (fun _ hk => hk.2) (.int .i64 t261)) (fun _ hk => hk.2) (.int .i64 t262)) (fun _ hk => hk.2) (.int .i64 t263)) (fun _ hk => ⟨hk.1.1, ⟨hk.1.2.1, hk.1.2.2⟩⟩)⟩
         have n1_ : Aside0 (Kd.V (Kd.slice 43 k43) 40 (((w36.setCell ⟨gb264, 0, none⟩ (.int .i64 t261)).setCell ⟨gb264, 1, none⟩ (.int .i64 t262)).setCell ⟨gb264, 2, none⟩ (.int .i64 t263)) w.heap.size (fun k_ => (w.heap.size ≤ k_) ∧ some k_ ≠ ((.slice (some ad260) t257.length c9_) : Value).ownBlock ∧ k_ ≠ gb264) u5 x5_4) := ⟨by (with_reducible repeat (first | apply Kd.V_alloc | apply Kd.V_drewN | apply Kd.V_drew)); exact Kd.V_mono (Kd.V_far (p := ⟨gb264, 2, none⟩) (Kd.V_far (p := ⟨gb264, 1, none⟩) (Kd.V_far (p := ⟨gb264, 0, none⟩) (Kd.V_mono HO_5.out (fun k_ hk => (⟨hk, hk.2.2⟩ : _ ∧ k_ ≠ gb264))) (fun _ hk => hk.2) (.int .i64 t261)) (fun _ hk => hk.2) (.int .i64 t262)) (fun _ hk => hk.2) (.int .i64 t263)) (fun _ hk => ⟨hk.1.1, ⟨hk.1.2.1, hk.1.2.2⟩⟩)⟩
         have n2_ : Aside0 (Kd.V k43 43 (((w36.setCell ⟨gb264, 0, none⟩ (.int .i64 t261)).setCell ⟨gb264, 1, none⟩ (.int .i64 t262)).setCell ⟨gb264, 2, none⟩ (.int .i64 t263)) w.heap.size (fun k_ => (w.heap.size ≤ k_) ∧ some k_ ≠ ((.slice (some ad260) t257.length c9_) : Value).ownBlock ∧ k_ ≠ gb264) (.slice (some ad256) (rd_L2 x3_1 x6_2).length c255_0) (rd_L2 x3_1 x6_2)) := ⟨by (with_reducible repeat (first | apply Kd.V_alloc | apply Kd.V_drewN | apply Kd.V_drew)); exact Kd.V_mono (Kd.V_far (p := ⟨gb264, 2, none⟩) (Kd.V_far (p := ⟨gb264, 1, none⟩) (Kd.V_far (p := ⟨gb264, 0, none⟩) (Kd.V_mono HL255_0.out (fun k_ hk => (⟨hk, hk.2.2⟩ : _ ∧ k_ ≠ gb264))) (fun _ hk => hk.2) (.int .i64 t261)) (fun _ hk => hk.2) (.int .i64 t262)) (fun _ hk => hk.2) (.int .i64 t263)) (fun _ hk => ⟨hk.1.1, ⟨hk.1.2.1, hk.1.2.2⟩⟩)⟩
         have n3_ : Aside0 (Kd.R k43 43 (((w36.setCell ⟨gb264, 0, none⟩ (.int .i64 t261)).setCell ⟨gb264, 1, none⟩ (.int .i64 t262)).setCell ⟨gb264, 2, none⟩ (.int .i64 t263)) w.heap.size (fun k_ => (w.heap.size ≤ k_) ∧ k_ ≠ gb264) (.slice (some ad260) t257.length c9_) t257) := ⟨by (with_reducible repeat (first | apply Kd.R_alloc | apply Kd.R_drewN | apply Kd.R_drew)); exact Kd.R_mono (Kd.R_far (p := ⟨gb264, 2, none⟩) (Kd.R_far (p := ⟨gb264, 1, none⟩) (Kd.R_far (p := ⟨gb264, 0, none⟩) (Kd.R_mono HO259.out (fun k_ hk => (⟨hk, hk.2⟩ : _ ∧ k_ ≠ gb264))) (fun _ hk => hk.2) (.int .i64 t261)) (fun _ hk => hk.2) (.int .i64 t262)) (fun _ hk => hk.2) (.int .i64 t263)) (fun _ hk => ⟨hk.1.1, hk.1.2⟩)⟩
         have n4_ : Aside0 ((((w36.setCell ⟨gb264, 0, none⟩ (.int .i64 t261)).setCell ⟨gb264, 1, none⟩ (.int .i64 t262)).setCell ⟨gb264, 2, none⟩ (.int .i64 t263)).heap[gb264]? = some (.cells #[.int .i64 t261, .int .i64 t262, .int .i64 t263] 43 (0, 0))) := ⟨by (with_reducible repeat (first | refine blk_drewN ?_ _ | refine blk_drew ?_ | refine blk_alloc ?_ _)); refine blk_put (cs := #[.int .i64 t261, .int .i64 t262, .int .i64 0]) ?_ 2 _ rfl; (with_reducible repeat (first | refine blk_drewN ?_ _ | refine blk_drew ?_ | refine blk_alloc ?_ _)); refine blk_put (cs := #[.int .i64 t261, .int .i64 0, .int .i64 0]) ?_ 1 _ rfl; (with_reducible repeat (first | refine blk_drewN ?_ _ | refine blk_drew ?_ | refine blk_alloc ?_ _)); refine blk_put (cs := #[.int .i64 0, .int .i64 0, .int .i64 0]) ?_ 0 _ rfl; (with_reducible repeat (first | refine blk_drewN ?_ _ | refine blk_drew ?_ | refine blk_alloc ?_ _)); exact BK264.out⟩
         have n5_ : Aside0 (Below w.heap.size w (((w36.setCell ⟨gb264, 0, none⟩ (.int .i64 t261)).setCell ⟨gb264, 1, none⟩ (.int .i64 t262)).setCell ⟨gb264, 2, none⟩ (.int .i64 t263))) := ⟨zs GE264.out⟩
         (try clear HO_3)
         (try clear HO_5)
         (try clear HL255_0)
         (try clear HO259)
         (try clear BK264)
         (try clear HB)
         generalize (((w36.setCell ⟨gb264, 0, none⟩ (.int .i64 t261)).setCell ⟨gb264, 1, none⟩ (.int .i64 t262)).setCell ⟨gb264, 2, none⟩ (.int .i64 t263)) = w40 at n0_ n1_ n2_ n3_ n4_ n5_ ⊢
         have HO_3 := n0_
         have HO_5 := n1_
         have HL255_0 := n2_
         have HO259 := n3_
         have BK264 := n4_
         have HB := n5_
         clear n0_ n1_ n2_ n3_ n4_ n5_
         have n0_ := aM (Kd.V_drew HO_3.out)
         have n1_ := aM (Kd.V_drew HO_5.out)
         have n2_ := aM (Kd.V_drew HL255_0.out)
         have n3_ := aM (Kd.R_drew HO259.out)
         have n4_ := aM (blk_drew BK264.out)
         have n5_ := aM (below_drew1 HB.out)
         clear HO_3
         clear HO_5
         clear HL255_0
         clear HO259
         clear BK264
         clear HB
         have HO_3 := n0_
         have HO_5 := n1_
         have HL255_0 := n2_
         have HO259 := n3_
         have BK264 := n4_
         have HB := n5_
         clear n0_ n1_ n2_ n3_ n4_ n5_
         have p265 : 0 ≤ (x6_2 : Int) := of_decide_eq_true za
         have q265 : x6_2 < (x3_1.length : Int) := of_decide_eq_true za
         obtain ⟨ad265, A265_0, c265_0, e265, hx265_0, hl265_0, hi265_0⟩ := at_L2 (Kd.V_reads' HO_3.out).2.2 x6_2 p265 q265
         obtain rfl : ad254 = ad265 := (by injection e265)
         obtain ⟨ce265, hce265, hMe265, hcc265⟩ := Kd.V_get HO_3.out [] x6_2 p265 (by first | exact q265 | exact of_decide_eq_true za | (have e_ := (Kd.V_reads' HO_3.out).1; omega))
         obtain ⟨ua265_0, uc265_0, rfl, ul265_0, ge265_0⟩ := Kd.FK_slice_open hMe265
         have hv265_0 := hcc265 0 _ rfl
         rw [Nat.add_zero, show ((Kd.slice 43 k43)).sz = 1 from rfl, Nat.mul_one] at hv265_0
         replace hv265_0 := Option.some.inj (hv265_0.symm.trans hx265_0)
         injection hv265_0 with hva_ hvn_ hvc_
         rw [hva_] at ge265_0
         rw [hvc_] at ul265_0
         have HL265_0 := aM (show Kd.V k43 43 _ w.heap.size _ _ (rd_L2 x3_1 x6_2) from Kd.V_mk ul265_0 ge265_0)
         clear hva_ hvn_ hvc_ ge265_0 ul265_0
         clear hcc265 hce265
         have HR265_0 := aM hi265_0
         have HC265_0 := aM hl265_0
         clear hi265_0 hl265_0
         replace p265 := eq_true p265
         replace q265 := eq_true q265
         refine start_ (n := 7) (S := fun w' => w'.cell? ⟨gb264, 0, none⟩ = some (.int .i64 t261) ∧ w'.cell? ⟨gb264, 1, none⟩ = some (.int .i64 t262) ∧ w'.cell? ⟨gb264, 2, none⟩ = some (.int .i64 t263) ∧ w'.cell? (ad254.add (x6_2).toNat) = some (.slice A265_0 (rd_L2 x3_1 x6_2).length c265_0)) (ds := []) #[false, false, false, false, false, false, false] (by kernel_rfl) rfl rfl ⟨(blk_cell BK264.out 0).trans rfl, (blk_cell BK264.out 1).trans rfl, (blk_cell BK264.out 2).trans rfl, hx265_0⟩ (fun hHeld => ?_)
         generalize w40.drew = w41 at HO_3 HO_5 HL255_0 HO259 BK264 HB HL265_0 HR265_0 hx265_0 hHeld ⊢
         refine pure_ (i := 0) (N := some 50) (v := ?_) (a' := ?_) #[true, false, false, false, false, false, false] rfl rfl (by kernel_rfl) (fun _ _ _ h => h) (Or.inl ⟨by rfl, ?_⟩) ?_ ?_
         rotate_left
         ·intro w'
          go_simp
          with_reducible rfl
         rotate_left
         ·simp only [Act.put, xA, xB, xC, i64_w, i32_w]
          rfl
         refine pure_ (i := 1) (N := some 51) (v := ?_) (a' := ?_) #[true, true, false, false, false, false, false] rfl rfl (by kernel_rfl) (fun _ _ _ h => h) (Or.inl ⟨by rfl, ?_⟩) ?_ ?_
         rotate_left
         ·intro w'
          go_simp
          with_reducible rfl
         rotate_left
         ·simp only [Act.put, xA, xB, xC, i64_w, i32_w]
          rfl
         refine pure_ (i := 2) (N := some 52) (v := ?_) (a' := ?_) #[true, true, true, false, false, false, false] rfl rfl (by kernel_rfl) (fun _ _ _ h => h) (Or.inl ⟨by rfl, ?_⟩) ?_ ?_
         rotate_left
         ·intro w'
          go_simp
          with_reducible rfl
         rotate_left
         ·simp only [Act.put, xA, xB, xC, i64_w, i32_w]
          rfl
         refine take_ (i := 3) (N := some 53) (v := ?_) (a' := ?_) #[true, true, true, true, false, false, false] rfl rfl (by kernel_rfl) (fun _ _ _ h => h) (Or.inl ⟨by rfl, ?_⟩) hHeld ?_ ?_
         rotate_left
         ·rintro w' ⟨s0, s1, s2, s3⟩
          go_simp
          with_reducible rfl
         rotate_left
         ·simp only [Act.put, xA, xB, xC, i64_w, i32_w]
          rfl
         refine take_ (i := 4) (N := some 54) (v := ?_) (a' := ?_) #[true, true, true, true, true, false, false] rfl rfl (by kernel_rfl) (fun _ _ _ h => h) (Or.inl ⟨by rfl, ?_⟩) hHeld ?_ ?_
         rotate_left
         ·rintro w' ⟨s0, s1, s2, s3⟩
          go_simp
          with_reducible rfl
         rotate_left
         ·simp only [Act.put, xA, xB, xC, i64_w, i32_w]
          rfl
         refine one_ (i := 5) (N := some 55) #[true, true, true, true, true, true, false] rfl rfl (by kernel_rfl) (by decide) (fun K hK => ?_)
         refine goes_ Try.func27 (by kernel_rfl) rfl #[.slice A265_0 (rd_L2 x3_1 x6_2).length c265_0, .agg #[.int .i64 t261, .int .i64 t262, .int .i64 t263]] (by rfl) rfl rfl zm ?_
         with_reducible refine (spec_l09Index.calls k4 _ _ (rd_L2 x3_1 x6_2) t261 t262 t263 t266 _ ?side1 ?side2 A24.out).mono ?_
         (case side1 => repeat (first | exact (mQ_ HR265_0.out) | (with_reducible refine Kd.C_alloc ?_ _) | (with_reducible refine Kd.C_drewN ?_ _) | (with_reducible refine Kd.C_drew ?_)))
         (case side2 => exact HC265_0.out)
         rintro e w42 ⟨rfl, hb⟩
         have HS3_ := zk hb (hHeld.2.2.2)
         refine ⟨_, rfl, ?_⟩
         have n0_ := aM (Kd.V_below (mV_ HO_3.out) hb)
         have n1_ := aM (Kd.V_below (mV_ HO_5.out) hb)
         have n2_ := aM (Kd.V_below (mV_ HL255_0.out) hb)
         have n3_ := aM (Kd.R_below (mR_ HO259.out) hb)
         have n4_ := aM (Kd.V_below (mV_ HL265_0.out) hb)
         have n5_ := aM (blk_below (g := gb264) (o := .cells #[.int .i64 t261, .int .i64 t262, .int .i64 t263] 43 (0, 0)) (mB_ BK264.out) hb)
         have n6_ := aM (Kd.C_below (mQ_ HR265_0.out) hb)
         have n7_ := aM (below_step (zs GE264.out) hb)
         clear HO_3
         clear HO_5
         clear HL255_0
         clear HO259
         clear HL265_0
         clear BK264
         clear HR265_0
         clear HB
         have HO_3 := n0_
         have HO_5 := n1_
         have HL255_0 := n2_
         have HO259 := n3_
         have HL265_0 := n4_
         have BK264 := n5_
         have HR265_0 := n6_
         have HB := n7_
         clear n0_ n1_ n2_ n3_ n4_ n5_ n6_ n7_
         (try clear hb)
         (try clear hb2)
         (try clear hk)
         (try clear hi)
         refine hK.out _ _ ⟨(blk_cell BK264.out 0).trans rfl, (blk_cell BK264.out 1).trans rfl, (blk_cell BK264.out 2).trans rfl, HS3_⟩ (fun hHeld => ?_)
         clear hK K
         refine norm_ (a' := ?_) ?_ ?_
         rotate_left
         ·show Act.put _ (some 55) _ = _
          simp only [Act.put, xA, xB, xC, i64_w, i32_w]
          rfl
         refine pure_ (i := 6) (N := some 56) (v := ?_) (a' := ?_) #[true, true, true, true, true, true, true] rfl rfl (by kernel_rfl) (fun _ _ _ h => h) (Or.inl ⟨by rfl, ?_⟩) ?_ ?_
         rotate_left
         ·intro w'
          go_simp
          with_reducible rfl
         rotate_left
         ·simp only [Act.put, xA, xB, xC, i64_w, i32_w]
          rfl
         refine done_ (by kernel_rfl) ?_
         obtain ⟨Ao43, co43, eo43⟩ := Kd.V_slice HO_5.out
         subst eo43
         try go_wp2
         have n0_ := aM (Kd.V_drew HO_3.out)
         have n1_ := aM (Kd.V_drew HO_5.out)
         have n2_ := aM (Kd.V_drew HL255_0.out)
         have n3_ := aM (Kd.R_drew HO259.out)
         have n4_ := aM (Kd.V_drew HL265_0.out)
         have n5_ := aM (blk_drew BK264.out)
         have n6_ := aM (Kd.C_drew HR265_0.out)
         have n7_ := aM (below_drew1 HB.out)
         clear HO_3
         clear HO_5
         clear HL255_0
         clear HO259
         clear HL265_0
         clear BK264
         clear HR265_0
         clear HB
         have HO_3 := n0_
         have HO_5 := n1_
         have HL255_0 := n2_
         have HO259 := n3_
         have HL265_0 := n4_
         have BK264 := n5_
         have HR265_0 := n6_
         have HB := n7_
         clear n0_ n1_ n2_ n3_ n4_ n5_ n6_ n7_
         have p270 : 0 ≤ (x6_2 : Int) := of_decide_eq_true za
         have q270 : x6_2 < (x3_1.length : Int) := of_decide_eq_true za
         obtain ⟨ad270, A270_0, c270_0, e270, hx270_0, hl270_0, hi270_0⟩ := at_L2 (Kd.V_reads' HO_3.out).2.2 x6_2 p270 q270
         obtain rfl : ad254 = ad270 := (by injection e270)
         obtain ⟨ce270, hce270, hMe270, hcc270⟩ := Kd.V_get HO_3.out [] x6_2 p270 (by first | exact q270 | exact of_decide_eq_true za | (have e_ := (Kd.V_reads' HO_3.out).1; omega))
         obtain ⟨ua270_0, uc270_0, rfl, ul270_0, ge270_0⟩ := Kd.FK_slice_open hMe270
         have hv270_0 := hcc270 0 _ rfl
         rw [Nat.add_zero, show ((Kd.slice 43 k43)).sz = 1 from rfl, Nat.mul_one] at hv270_0
         replace hv270_0 := Option.some.inj (hv270_0.symm.trans hx270_0)
         injection hv270_0 with hva_ hvn_ hvc_
         rw [hva_] at ge270_0
         rw [hvc_] at ul270_0
         have HL270_0 := aM (show Kd.V k43 43 _ w.heap.size _ _ (rd_L2 x3_1 x6_2) from Kd.V_mk ul270_0 ge270_0)
         clear hva_ hvn_ hvc_ ge270_0 ul270_0
         clear hcc270 hce270
         have HR270_0 := aM hi270_0
         have HC270_0 := aM hl270_0
         clear hi270_0 hl270_0
         replace p270 := eq_true p270
         replace q270 := eq_true q270
         refine start_ (n := 14) (S := fun w' => w'.cell? ⟨gb264, 0, none⟩ = some (.int .i64 t261) ∧ w'.cell? ⟨gb264, 1, none⟩ = some (.int .i64 t262) ∧ w'.cell? ⟨gb264, 2, none⟩ = some (.int .i64 t263) ∧ w'.cell? (ad254.add (x6_2).toNat) = some (.slice A270_0 (rd_L2 x3_1 x6_2).length c270_0)) (ds := []) zA70 (by kernel_rfl) rfl rfl ⟨(blk_cell BK264.out 0).trans rfl, (blk_cell BK264.out 1).trans rfl, (blk_cell BK264.out 2).trans rfl, hx270_0⟩ (fun hHeld => ?_); refine with_tabW spec_l09All.tab17 spec_l09All.bits17 (fun HT_ HW_ => ?_)
         generalize w42.drew = w44 at HO_3 HO_5 HL255_0 HO259 HL265_0 BK264 HR265_0 HB HL270_0 HR270_0 hx270_0 hHeld ⊢
         refine zp 0 (some 57) ?_ zA71 rfl rfl (Or.inl ⟨by rfl, ?_⟩) ?_ ?_ ?_
         rotate_left
         ·intro w'
          go_simp
          with_reducible rfl
         rotate_left
         ·simp only [Act.put, xA, xB, xC, i64_w, i32_w]
          rfl
         refine zp 2 (some 59) ?_ zA89 rfl rfl (Or.inl ⟨by rfl, ?_⟩) ?_ ?_ ?_
         rotate_left
         ·intro w'
          go_simp
          with_reducible rfl
         rotate_left
         ·simp only [Act.put, xA, xB, xC, i64_w, i32_w]
          rfl
         refine zp 3 (some 60) ?_ zA90 rfl rfl (Or.inl ⟨by rfl, ?_⟩) ?_ ?_ ?_
         rotate_left
         ·intro w'
          go_simp
          with_reducible rfl
         rotate_left
         ·simp only [Act.put, xA, xB, xC, i64_w, i32_w]
          rfl
         refine zp 4 (some 61) ?_ zA91 rfl rfl (Or.inl ⟨by rfl, ?_⟩) ?_ ?_ ?_
         rotate_left
         ·intro w'
          go_simp
          with_reducible rfl
         rotate_left
         ·simp only [Act.put, xA, xB, xC, i64_w, i32_w]
          rfl
         refine zu 5 (some 62) ?_ zA92 rfl rfl (Or.inl ⟨by rfl, ?_⟩) hHeld ?_ ?_ ?_
         rotate_left
         ·rintro w' ⟨s0, s1, s2, s3⟩
          go_simp
          with_reducible rfl
         rotate_left
         ·simp only [Act.put, xA, xB, xC, i64_w, i32_w]
          rfl
         refine zu 7 (some 64) ?_ zA93 rfl rfl (Or.inl ⟨by rfl, ?_⟩) hHeld ?_ ?_ ?_
         rotate_left
         ·rintro w' ⟨s0, s1, s2, s3⟩
          go_simp
          with_reducible rfl
         rotate_left
         ·simp only [Act.put, xA, xB, xC, i64_w, i32_w]
          rfl
         refine join_ (σ := Value × Value × Value) 5 zA80 (fun s_ => [(58, s_.1), (63, s_.2.1), (65, s_.2.2)]) (fun s_ w' => (w'.cell? ⟨gb264, 0, none⟩ = some (.int .i64 t261) ∧ w'.cell? ⟨gb264, 1, none⟩ = some (.int .i64 t262) ∧ w'.cell? ⟨gb264, 2, none⟩ = some (.int .i64 t263) ∧ w'.cell? (ad254.add (x6_2).toNat) = some (.slice A270_0 (rd_L2 x3_1 x6_2).length c270_0)) ∧ (Kd.V k43 43 w' w.heap.size (fun k_ => (w.heap.size ≤ k_) ∧ some k_ ≠ ((.slice (some ad260) t257.length c9_) : Value).ownBlock ∧ some k_ ≠ (s_.2.1 : Value).ownBlock ∧ some k_ ≠ (s_.2.2 : Value).ownBlock ∧ k_ ≠ gb264) (.slice (some ad256) (rd_L2 x3_1 x6_2).length c255_0) (rd_L2 x3_1 x6_2)) ∧ (Kd.V k43 43 w' w.heap.size (fun k_ => (w.heap.size ≤ k_) ∧ some k_ ≠ ((.slice (some ad260) t257.length c9_) : Value).ownBlock ∧ some k_ ≠ (s_.2.1 : Value).ownBlock ∧ some k_ ≠ (s_.2.2 : Value).ownBlock ∧ k_ ≠ gb264) (.slice A265_0 (rd_L2 x3_1 x6_2).length c265_0) (rd_L2 x3_1 x6_2)) ∧ (Kd.V k43 43 w' w.heap.size (fun k_ => (w.heap.size ≤ k_) ∧ some k_ ≠ ((.slice (some ad260) t257.length c9_) : Value).ownBlock ∧ some k_ ≠ (s_.2.1 : Value).ownBlock ∧ some k_ ≠ (s_.2.2 : Value).ownBlock ∧ k_ ≠ gb264) (.slice A270_0 (rd_L2 x3_1 x6_2).length c270_0) (rd_L2 x3_1 x6_2)) ∧ (Kd.R k43 43 w' w.heap.size (fun k_ => (w.heap.size ≤ k_) ∧ some k_ ≠ (s_.2.1 : Value).ownBlock ∧ some k_ ≠ (s_.2.2 : Value).ownBlock ∧ k_ ≠ gb264) (.slice (some ad260) t257.length c9_) t257) ∧ (Kd.R k43 43 w' w.heap.size (fun k_ => (w.heap.size ≤ k_) ∧ some k_ ≠ ((.slice (some ad260) t257.length c9_) : Value).ownBlock ∧ some k_ ≠ (s_.2.2 : Value).ownBlock ∧ k_ ≠ gb264) s_.2.1 y271) ∧ (Kd.R k43 43 w' w.heap.size (fun k_ => (w.heap.size ≤ k_) ∧ some k_ ≠ ((.slice (some ad260) t257.length c9_) : Value).ownBlock ∧ some k_ ≠ (s_.2.1 : Value).ownBlock ∧ k_ ≠ gb264) s_.2.2 y274) ∧ (Kd.V (Kd.slice 43 k43) 40 w' w.heap.size (fun k_ => (w.heap.size ≤ k_) ∧ some k_ ≠ ((.slice (some ad260) t257.length c9_) : Value).ownBlock ∧ some k_ ≠ (s_.2.1 : Value).ownBlock ∧ some k_ ≠ (s_.2.2 : Value).ownBlock ∧ k_ ≠ gb264) (.slice (some ad254) x3_1.length co11) x3_1) ∧ (Kd.V (Kd.slice 43 k43) 40 w' w.heap.size (fun k_ => (w.heap.size ≤ k_) ∧ some k_ ≠ ((.slice (some ad260) t257.length c9_) : Value).ownBlock ∧ some k_ ≠ (s_.2.1 : Value).ownBlock ∧ some k_ ≠ (s_.2.2 : Value).ownBlock ∧ k_ ≠ gb264) (.slice Ao43 x5_4.length co43) x5_4) ∧ (w'.heap[gb264]? = some (.cells #[.int .i64 t261, .int .i64 t262, .int .i64 t263] 43 (0, 0))) ∧ (Below w.heap.size w w')) ?_ ?_
         rotate_left
         ·intro hCont
          refine two_ (i := 1) (j := 8) (Ni := some 58) (Nj := some 65) zA94 zA95 rfl rfl rfl rfl (two_of HT_.out (by kernel_rfl)) (by decide) (by decide) (fun K hK => ?_) (fun K hK => ?_)
          ·skip
           refine Kd.R_lit_step k43 _ 43 ?hg (N := 58) ?hd (xs := ([] : List (S43))) (inner := []) (ok := fun _ => True) (okp := fun _ => True) ?hr ?hp (fun _ hk => hk) trivial (Below.refl _ _) (Nat.le_refl _) (by simp) ?_; (case hd => rfl); (case hg => rfl); (case hr => first | (go_simp; done) | (go_simp; rfl)); (case hp => exact (Reps.none _ _))
           intro v268 w45 ho46 hb hg_ hnew_
           have HS3_ := zk hb (hHeld.2.2.2)
           clear hg_ hnew_
           (first | rw [← Ny267.out] at ho46 | (simp only [Int.reduceToNat] at ho46; rw [← Ny267.out] at ho46))
           have n0_ := aM (Kd.V_elder' (mV_ HO_3.out) (Kd.R_base ho46) hb)
           have n1_ := aM (Kd.V_elder' (mV_ HO_5.out) (Kd.R_base ho46) hb)
           have n2_ := aM (Kd.V_elder' (mV_ HL255_0.out) (Kd.R_base ho46) hb)
           have n3_ := aM (Kd.R_elder' (mR_ HO259.out) (Kd.R_base ho46) hb)
           have n4_ := aM (Kd.V_elder' (mV_ HL265_0.out) (Kd.R_base ho46) hb)
           have n5_ := aM (Kd.V_elder' (mV_ HL270_0.out) (Kd.R_base ho46) hb)
           have n6_ := aM (Kd.R_lower (Kd.R_newB (Kd.R_new' (Kd.R_newM (M := fun k_ => (w.heap.size ≤ k_)) ho46 (below_size (zs GE264.out)) (fun k_ h_ => h_)) (Kd.R_lt (mR_ HO259.out))) (g := gb264) (o := .cells #[.int .i64 t261, .int .i64 t262, .int .i64 t263] 43 (0, 0)) (mB_ BK264.out)) (below_size (zs GE264.out)))
           have n7_ := aM (blk_below (g := gb264) (o := .cells #[.int .i64 t261, .int .i64 t262, .int .i64 t263] 43 (0, 0)) (mB_ BK264.out) hb)
           have n8_ := aM (Kd.C_below (mQ_ HR265_0.out) hb)
           have n9_ := aM (Kd.C_below (mQ_ HR270_0.out) hb)
           have n10_ := aM (below_step (zs GE264.out) hb)
           clear HO_3
           clear HO_5
           clear HL255_0
           clear HO259
           clear HL265_0
           clear HL270_0
           clear BK264
           clear HR265_0
           clear HR270_0
           clear HB
           have HO_3 := n0_
           have HO_5 := n1_
           have HL255_0 := n2_
           have HO259 := n3_
           have HL265_0 := n4_
           have HL270_0 := n5_
           have HO269 := n6_
           have BK264 := n7_
           have HR265_0 := n8_
           have HR270_0 := n9_
           have HB := n10_
           clear n0_ n1_ n2_ n3_ n4_ n5_ n6_ n7_ n8_ n9_ n10_
           clear hb ho46
           refine hK.out _ _ ⟨(blk_cell BK264.out 0).trans rfl, (blk_cell BK264.out 1).trans rfl, (blk_cell BK264.out 2).trans rfl, HS3_⟩ (fun hHeld => ?_)
           clear hK K
           refine norm_ (a' := ?_) ?_ ?_
           rotate_left
           ·show Act.put _ (some 58) _ = _
            simp only [Act.put, xA, xB, xC, i64_w, i32_w]
            rfl
           refine two_ (i := 6) (j := 8) (Ni := some 63) (Nj := some 65) zA96 zA97 rfl rfl rfl rfl (two_of HT_.out (by kernel_rfl)) (by decide) (by decide) (fun K hK => ?_) (fun K hK => ?_)
           ·skip
            refine Kd.R_append_rows_step k43 (w0 := w) w.heap.size (by rfl) (.tmp 58) (.tmp 62) 40 43 (.agg #[(.int .i64 0), (.int .i64 0), (.int .i64 0)]) 24 rfl Try.underlying40 info43 rfl (by decide) (by omega) v268 y267 (rd_L2 x3_1 x6_2) _ _ _ (fun k_ => (w.heap.size ≤ k_) ∧ some k_ ≠ ((.slice (some ad260) t257.length c9_) : Value).ownBlock ∧ k_ ≠ gb264) (fun _ => False) rfl rfl ?aO ?aR (fun _ _ h => h) (fun _ h => h.elim) ?aF ?aB ?aS ?aL ?_
            (case aR => repeat (first | exact (mQ_ HR270_0.out) | (with_reducible refine Kd.C_alloc ?_ _) | (with_reducible refine Kd.C_drewN ?_ _) | (with_reducible refine Kd.C_drew ?_)))
            (case aB => exact (zs GE264.out))
            (case aF => exact (fun k_ hk => ⟨(Nat.le_trans (below_size (zs GE264.out)) hk), Kd.fresh' (Kd.R_lt (mR_ HO259.out)) k_ hk, Kd.freshB (g := gb264) (o := .cells #[.int .i64 t261, .int .i64 t262, .int .i64 t263] 43 (0, 0)) (mB_ BK264.out) k_ hk⟩))
            (case aO => exact (zd11 HO269.out))
            (case aS => exact (below_size (zs GE264.out)))
            (case aL => have := LMc26.out; omega)
            intro v272 w47 ho hb hg hat
            have HS3_ := cell_grown9_ hg (hHeld.2.2.2) (by first | (rw [add_block]; exact (by have h9_ := V_in9_ HO_3.out (by decide) PV254.out; first | exact h9_.2 | exact h9_.1 | exact h9_.2.1 | exact h9_.2.2.1 | exact h9_.2.2.2.1 | exact h9_.2.2.2.2.1 | exact h9_.2.2.2.2.2.1 | exact h9_.2.2.2.2.2.2.1 | exact h9_.2.2.2.2.2.2.2.1 | exact h9_.2.2 | exact h9_.2.2.2 | exact h9_.2.2.2.2 | exact h9_.2.2.2.2.2 | exact h9_.2.2.2.2.2.2 | exact h9_.2.2.2.2.2.2.2 | exact h9_.1.1 | exact h9_.1.2.1 | exact h9_.1.2.2.1 | exact h9_.1.2.2.2.1 | exact h9_.1.2.2.2.2.1 | exact h9_.1.2.2.2.2.2.1 | exact h9_.1.2.2.2.2.2.2.1 | exact h9_.1.2 | exact h9_.1.2.2 | exact h9_.1.2.2.2 | exact h9_.1.2.2.2.2 | exact h9_.1.2.2.2.2.2 | exact h9_.1.2.2.2.2.2.2)) | (show some (Addr.add _ _).block ≠ _; rw [add_block]; exact (by have h9_ := V_in9_ HO_3.out (by decide) PV254.out; first | exact h9_.2 | exact h9_.1 | exact h9_.2.1 | exact h9_.2.2.1 | exact h9_.2.2.2.1 | exact h9_.2.2.2.2.1 | exact h9_.2.2.2.2.2.1 | exact h9_.2.2.2.2.2.2.1 | exact h9_.2.2.2.2.2.2.2.1 | exact h9_.2.2 | exact h9_.2.2.2 | exact h9_.2.2.2.2 | exact h9_.2.2.2.2.2 | exact h9_.2.2.2.2.2.2 | exact h9_.2.2.2.2.2.2.2 | exact h9_.1.1 | exact h9_.1.2.1 | exact h9_.1.2.2.1 | exact h9_.1.2.2.2.1 | exact h9_.1.2.2.2.2.1 | exact h9_.1.2.2.2.2.2.1 | exact h9_.1.2.2.2.2.2.2.1 | exact h9_.1.2 | exact h9_.1.2.2 | exact h9_.1.2.2.2 | exact h9_.1.2.2.2.2 | exact h9_.1.2.2.2.2.2 | exact h9_.1.2.2.2.2.2.2)) | exact (by have h9_ := V_in9_ HO_3.out (by decide) PV254.out; first | exact h9_.2 | exact h9_.1 | exact h9_.2.1 | exact h9_.2.2.1 | exact h9_.2.2.2.1 | exact h9_.2.2.2.2.1 | exact h9_.2.2.2.2.2.1 | exact h9_.2.2.2.2.2.2.1 | exact h9_.2.2.2.2.2.2.2.1 | exact h9_.2.2 | exact h9_.2.2.2 | exact h9_.2.2.2.2 | exact h9_.2.2.2.2.2 | exact h9_.2.2.2.2.2.2 | exact h9_.2.2.2.2.2.2.2 | exact h9_.1.1 | exact h9_.1.2.1 | exact h9_.1.2.2.1 | exact h9_.1.2.2.2.1 | exact h9_.1.2.2.2.2.1 | exact h9_.1.2.2.2.2.2.1 | exact h9_.1.2.2.2.2.2.2.1 | exact h9_.1.2 | exact h9_.1.2.2 | exact h9_.1.2.2.2 | exact h9_.1.2.2.2.2 | exact h9_.1.2.2.2.2.2 | exact h9_.1.2.2.2.2.2.2))
            rw [← Ny271.out] at ho
            have n0_ := aM (Kd.V_afterv (ok := (fun k_ => (w.heap.size ≤ k_) ∧ some k_ ≠ ((.slice (some ad260) t257.length c9_) : Value).ownBlock ∧ k_ ≠ gb264)) (mV_ HO_3.out) hg hat)
            have n1_ := aM (Kd.V_afterv (ok := (fun k_ => (w.heap.size ≤ k_) ∧ some k_ ≠ ((.slice (some ad260) t257.length c9_) : Value).ownBlock ∧ k_ ≠ gb264)) (mV_ HO_5.out) hg hat)
            have n2_ := aM (Kd.V_afterv (ok := (fun k_ => (w.heap.size ≤ k_) ∧ some k_ ≠ ((.slice (some ad260) t257.length c9_) : Value).ownBlock ∧ k_ ≠ gb264)) (mV_ HL255_0.out) hg hat)
            have n3_ := aM (Kd.R_after (ok := (fun k_ => (w.heap.size ≤ k_) ∧ k_ ≠ gb264)) (mR_ HO259.out) hg hat)
            have n4_ := aM (blk_grown (g := gb264) (o := .cells #[.int .i64 t261, .int .i64 t262, .int .i64 t263] 43 (0, 0)) (mB_ BK264.out) hg (Kd.R_away HO269.out (fun _ hk => hk.2)))
            have n5_ := aM (Kd.V_afterv (ok := (fun k_ => (w.heap.size ≤ k_) ∧ some k_ ≠ ((.slice (some ad260) t257.length c9_) : Value).ownBlock ∧ k_ ≠ gb264)) (mV_ HL265_0.out) hg hat)
            have n6_ := aM (Kd.V_afterv (ok := (fun k_ => (w.heap.size ≤ k_) ∧ some k_ ≠ ((.slice (some ad260) t257.length c9_) : Value).ownBlock ∧ k_ ≠ gb264)) (mV_ HL270_0.out) hg hat)
            have n7_ := aM (hb)
            have n8_ := aM (ho)
            clear HO_3
            clear HO_5
            clear HL255_0
            clear HO259
            clear BK264
            clear HL265_0
            clear HL270_0
            clear HB
            clear HO269
            have HO_3 := n0_
            have HO_5 := n1_
            have HL255_0 := n2_
            have HO259 := n3_
            have BK264 := n4_
            have HL265_0 := n5_
            have HL270_0 := n6_
            have HB := n7_
            have HO273 := n8_
            clear n0_ n1_ n2_ n3_ n4_ n5_ n6_ n7_ n8_
            clear ho hb hg hat
            refine hK.out _ _ ⟨(blk_cell BK264.out 0).trans rfl, (blk_cell BK264.out 1).trans rfl, (blk_cell BK264.out 2).trans rfl, HS3_⟩ (fun hHeld => ?_)
            clear hK K
            refine norm_ (a' := ?_) ?_ ?_
            rotate_left
            ·show Act.put _ (some 63) _ = _
             simp only [Act.put, xA, xB, xC, i64_w, i32_w]
             rfl
            refine one_ (i := 8) (N := some 65) zA80 rfl rfl (one_of HT_.out (by kernel_rfl)) (by decide) (fun K hK => ?_)
            refine Kd.R_lit_step k43 _ 43 ?hg (N := 65) ?hd (xs := ([(⟨t261, t262, t263⟩ : S43)] : List (S43))) (inner := [.int .i64 t261, .int .i64 t262, .int .i64 t263]) (ok := fun _ => True) (okp := fun _ => True) ?hr ?hp (fun _ hk => hk) trivial (Below.refl _ _) (Nat.le_refl _) (by simp) ?_; (case hd => rfl); (case hg => rfl); (case hr => first | (go_simp; done) | (go_simp; rfl)); (case hp => exact (Reps.c3 (show Kd.M k43 _ _ _ (⟨t261, t262, t263⟩ : S43) [.int .i64 t261, .int .i64 t262, .int .i64 t263] from (k43_mkM _ _ _ (⟨t261, t262, t263⟩ : S43) )) (Reps.none _ _)))
            intro v275 w48 ho49 hb hg_ hnew_
            have HS3_ := zk hb (hHeld.2.2.2)
            clear hg_ hnew_
            (first | rw [← Ny274.out] at ho49 | (simp only [Int.reduceToNat] at ho49; rw [← Ny274.out] at ho49))
            have n0_ := aM (Kd.V_elder' (mV_ HO_3.out) (Kd.R_base ho49) hb)
            have n1_ := aM (Kd.V_elder' (mV_ HO_5.out) (Kd.R_base ho49) hb)
            have n2_ := aM (Kd.V_elder' (mV_ HL255_0.out) (Kd.R_base ho49) hb)
            have n3_ := aM (Kd.R_elder' (mR_ HO259.out) (Kd.R_base ho49) hb)
            have n4_ := aM (Kd.V_elder' (mV_ HL265_0.out) (Kd.R_base ho49) hb)
            have n5_ := aM (Kd.V_elder' (mV_ HL270_0.out) (Kd.R_base ho49) hb)
            have n6_ := aM (Kd.R_elder' (mR_ HO273.out) (Kd.R_base ho49) hb)
            have n7_ := aM (Kd.R_lower (Kd.R_newB (Kd.R_new' (Kd.R_new' (Kd.R_newM (M := fun k_ => (w.heap.size ≤ k_)) ho49 (below_size (zs GE264.out)) (fun k_ h_ => h_)) (Kd.R_lt (mR_ HO259.out))) (Kd.R_lt (mR_ HO273.out))) (g := gb264) (o := .cells #[.int .i64 t261, .int .i64 t262, .int .i64 t263] 43 (0, 0)) (mB_ BK264.out)) (below_size (zs GE264.out)))
            have n8_ := aM (blk_below (g := gb264) (o := .cells #[.int .i64 t261, .int .i64 t262, .int .i64 t263] 43 (0, 0)) (mB_ BK264.out) hb)
            have n9_ := aM (below_step (zs GE264.out) hb)
            clear HO_3
            clear HO_5
            clear HL255_0
            clear HO259
            clear HL265_0
            clear HL270_0
            clear HO273
            clear BK264
            clear HB
            have HO_3 := n0_
            have HO_5 := n1_
            have HL255_0 := n2_
            have HO259 := n3_
            have HL265_0 := n4_
            have HL270_0 := n5_
            have HO273 := n6_
            have HO276 := n7_
            have BK264 := n8_
            have HB := n9_
            clear n0_ n1_ n2_ n3_ n4_ n5_ n6_ n7_ n8_ n9_
            clear hb ho49
            refine hK.out _ _ ⟨(blk_cell BK264.out 0).trans rfl, (blk_cell BK264.out 1).trans rfl, (blk_cell BK264.out 2).trans rfl, HS3_⟩ (fun hHeld => ?_)
            clear hK K
            refine norm_ (a' := ?_) ?_ ?_
            rotate_left
            ·show Act.put _ (some 65) _ = _
             simp only [Act.put, xA, xB, xC, i64_w, i32_w]
             rfl
            exact norm_ (by simp only [putAll, Act.put, xA, xB, xC]) (hCont (v268, v272, v275) _ ⟨hHeld, (zd24 HL255_0.out), (zd24 HL265_0.out), (zd24 HL270_0.out), (zd12 HO259.out), (zd13 HO273.out), (zd14 HO276.out), (zd24 HO_3.out), (zd24 HO_5.out), (mB_ BK264.out), (zs GE264.out)⟩)
           ·skip
            refine Kd.R_lit_step k43 _ 43 ?hg (N := 65) ?hd (xs := ([(⟨t261, t262, t263⟩ : S43)] : List (S43))) (inner := [.int .i64 t261, .int .i64 t262, .int .i64 t263]) (ok := fun _ => True) (okp := fun _ => True) ?hr ?hp (fun _ hk => hk) trivial (Below.refl _ _) (Nat.le_refl _) (by simp) ?_; (case hd => rfl); (case hg => rfl); (case hr => first | (go_simp; done) | (go_simp; rfl)); (case hp => exact (Reps.c3 (show Kd.M k43 _ _ _ (⟨t261, t262, t263⟩ : S43) [.int .i64 t261, .int .i64 t262, .int .i64 t263] from (k43_mkM _ _ _ (⟨t261, t262, t263⟩ : S43) )) (Reps.none _ _)))
            intro v275 w47 ho48 hb hg_ hnew_
            have HS3_ := zk hb (hHeld.2.2.2)
            clear hg_ hnew_
            (first | rw [← Ny274.out] at ho48 | (simp only [Int.reduceToNat] at ho48; rw [← Ny274.out] at ho48))
            have n0_ := aM (Kd.V_elder' (mV_ HO_3.out) (Kd.R_base ho48) hb)
            have n1_ := aM (Kd.V_elder' (mV_ HO_5.out) (Kd.R_base ho48) hb)
            have n2_ := aM (Kd.V_elder' (mV_ HL255_0.out) (Kd.R_base ho48) hb)
            have n3_ := aM (Kd.R_elder' (mR_ HO259.out) (Kd.R_base ho48) hb)
            have n4_ := aM (Kd.V_elder' (mV_ HL265_0.out) (Kd.R_base ho48) hb)
            have n5_ := aM (Kd.V_elder' (mV_ HL270_0.out) (Kd.R_base ho48) hb)
            have n6_ := aM (Kd.R_elder' (mR_ HO269.out) (Kd.R_base ho48) hb)
            have n7_ := aM (Kd.R_lower (Kd.R_newB (Kd.R_new' (Kd.R_new' (Kd.R_newM (M := fun k_ => (w.heap.size ≤ k_)) ho48 (below_size (zs GE264.out)) (fun k_ h_ => h_)) (Kd.R_lt (mR_ HO259.out))) (Kd.R_lt (mR_ HO269.out))) (g := gb264) (o := .cells #[.int .i64 t261, .int .i64 t262, .int .i64 t263] 43 (0, 0)) (mB_ BK264.out)) (below_size (zs GE264.out)))
            have n8_ := aM (blk_below (g := gb264) (o := .cells #[.int .i64 t261, .int .i64 t262, .int .i64 t263] 43 (0, 0)) (mB_ BK264.out) hb)
            have n9_ := aM (Kd.C_below (mQ_ HR265_0.out) hb)
            have n10_ := aM (Kd.C_below (mQ_ HR270_0.out) hb)
            have n11_ := aM (below_step (zs GE264.out) hb)
            clear HO_3
            clear HO_5
            clear HL255_0
            clear HO259
            clear HL265_0
            clear HL270_0
            clear HO269
            clear BK264
            clear HR265_0
            clear HR270_0
            clear HB
            have HO_3 := n0_
            have HO_5 := n1_
            have HL255_0 := n2_
            have HO259 := n3_
            have HL265_0 := n4_
            have HL270_0 := n5_
            have HO269 := n6_
            have HO276 := n7_
            have BK264 := n8_
            have HR265_0 := n9_
            have HR270_0 := n10_
            have HB := n11_
            clear n0_ n1_ n2_ n3_ n4_ n5_ n6_ n7_ n8_ n9_ n10_ n11_
            clear hb ho48
            refine hK.out _ _ ⟨(blk_cell BK264.out 0).trans rfl, (blk_cell BK264.out 1).trans rfl, (blk_cell BK264.out 2).trans rfl, HS3_⟩ (fun hHeld => ?_)
            clear hK K
            refine norm_ (a' := ?_) ?_ ?_
            rotate_left
            ·show Act.put _ (some 65) _ = _
             simp only [Act.put, xA, xB, xC, i64_w, i32_w]
             rfl
            refine one_ (i := 6) (N := some 63) zA80 rfl rfl (one_of HT_.out (by kernel_rfl)) (by decide) (fun K hK => ?_)
            refine Kd.R_append_rows_step k43 (w0 := w) w.heap.size (by rfl) (.tmp 58) (.tmp 62) 40 43 (.agg #[(.int .i64 0), (.int .i64 0), (.int .i64 0)]) 24 rfl Try.underlying40 info43 rfl (by decide) (by omega) v268 y267 (rd_L2 x3_1 x6_2) _ _ _ (fun k_ => (w.heap.size ≤ k_) ∧ some k_ ≠ ((.slice (some ad260) t257.length c9_) : Value).ownBlock ∧ some k_ ≠ (v275 : Value).ownBlock ∧ k_ ≠ gb264) (fun _ => False) rfl rfl ?aO ?aR (fun _ _ h => h) (fun _ h => h.elim) ?aF ?aB ?aS ?aL ?_
            (case aR => repeat (first | exact (mQ_ HR270_0.out) | (with_reducible refine Kd.C_alloc ?_ _) | (with_reducible refine Kd.C_drewN ?_ _) | (with_reducible refine Kd.C_drew ?_)))
            (case aB => exact (zs GE264.out))
            (case aF => exact (fun k_ hk => ⟨(Nat.le_trans (below_size (zs GE264.out)) hk), Kd.fresh' (Kd.R_lt (mR_ HO259.out)) k_ hk, Kd.fresh' (Kd.R_lt (mR_ HO276.out)) k_ hk, Kd.freshB (g := gb264) (o := .cells #[.int .i64 t261, .int .i64 t262, .int .i64 t263] 43 (0, 0)) (mB_ BK264.out) k_ hk⟩))
            (case aO => exact (zd15 HO269.out))
            (case aS => exact (below_size (zs GE264.out)))
            (case aL => have := LMc26.out; omega)
            intro v272 w49 ho hb hg hat
            have HS3_ := cell_grown9_ hg (hHeld.2.2.2) (by first | (rw [add_block]; exact (by have h9_ := V_in9_ HO_3.out (by decide) PV254.out; first | exact h9_.2 | exact h9_.1 | exact h9_.2.1 | exact h9_.2.2.1 | exact h9_.2.2.2.1 | exact h9_.2.2.2.2.1 | exact h9_.2.2.2.2.2.1 | exact h9_.2.2.2.2.2.2.1 | exact h9_.2.2.2.2.2.2.2.1 | exact h9_.2.2 | exact h9_.2.2.2 | exact h9_.2.2.2.2 | exact h9_.2.2.2.2.2 | exact h9_.2.2.2.2.2.2 | exact h9_.2.2.2.2.2.2.2 | exact h9_.1.1 | exact h9_.1.2.1 | exact h9_.1.2.2.1 | exact h9_.1.2.2.2.1 | exact h9_.1.2.2.2.2.1 | exact h9_.1.2.2.2.2.2.1 | exact h9_.1.2.2.2.2.2.2.1 | exact h9_.1.2 | exact h9_.1.2.2 | exact h9_.1.2.2.2 | exact h9_.1.2.2.2.2 | exact h9_.1.2.2.2.2.2 | exact h9_.1.2.2.2.2.2.2)) | (show some (Addr.add _ _).block ≠ _; rw [add_block]; exact (by have h9_ := V_in9_ HO_3.out (by decide) PV254.out; first | exact h9_.2 | exact h9_.1 | exact h9_.2.1 | exact h9_.2.2.1 | exact h9_.2.2.2.1 | exact h9_.2.2.2.2.1 | exact h9_.2.2.2.2.2.1 | exact h9_.2.2.2.2.2.2.1 | exact h9_.2.2.2.2.2.2.2.1 | exact h9_.2.2 | exact h9_.2.2.2 | exact h9_.2.2.2.2 | exact h9_.2.2.2.2.2 | exact h9_.2.2.2.2.2.2 | exact h9_.2.2.2.2.2.2.2 | exact h9_.1.1 | exact h9_.1.2.1 | exact h9_.1.2.2.1 | exact h9_.1.2.2.2.1 | exact h9_.1.2.2.2.2.1 | exact h9_.1.2.2.2.2.2.1 | exact h9_.1.2.2.2.2.2.2.1 | exact h9_.1.2 | exact h9_.1.2.2 | exact h9_.1.2.2.2 | exact h9_.1.2.2.2.2 | exact h9_.1.2.2.2.2.2 | exact h9_.1.2.2.2.2.2.2)) | exact (by have h9_ := V_in9_ HO_3.out (by decide) PV254.out; first | exact h9_.2 | exact h9_.1 | exact h9_.2.1 | exact h9_.2.2.1 | exact h9_.2.2.2.1 | exact h9_.2.2.2.2.1 | exact h9_.2.2.2.2.2.1 | exact h9_.2.2.2.2.2.2.1 | exact h9_.2.2.2.2.2.2.2.1 | exact h9_.2.2 | exact h9_.2.2.2 | exact h9_.2.2.2.2 | exact h9_.2.2.2.2.2 | exact h9_.2.2.2.2.2.2 | exact h9_.2.2.2.2.2.2.2 | exact h9_.1.1 | exact h9_.1.2.1 | exact h9_.1.2.2.1 | exact h9_.1.2.2.2.1 | exact h9_.1.2.2.2.2.1 | exact h9_.1.2.2.2.2.2.1 | exact h9_.1.2.2.2.2.2.2.1 | exact h9_.1.2 | exact h9_.1.2.2 | exact h9_.1.2.2.2 | exact h9_.1.2.2.2.2 | exact h9_.1.2.2.2.2.2 | exact h9_.1.2.2.2.2.2.2))
            rw [← Ny271.out] at ho
            have n0_ := aM (Kd.V_afterv (ok := (fun k_ => (w.heap.size ≤ k_) ∧ some k_ ≠ ((.slice (some ad260) t257.length c9_) : Value).ownBlock ∧ some k_ ≠ (v275 : Value).ownBlock ∧ k_ ≠ gb264)) (zd25 HO_3.out) hg hat)
            have n1_ := aM (Kd.V_afterv (ok := (fun k_ => (w.heap.size ≤ k_) ∧ some k_ ≠ ((.slice (some ad260) t257.length c9_) : Value).ownBlock ∧ some k_ ≠ (v275 : Value).ownBlock ∧ k_ ≠ gb264)) (zd25 HO_5.out) hg hat)
            have n2_ := aM (Kd.V_afterv (ok := (fun k_ => (w.heap.size ≤ k_) ∧ some k_ ≠ ((.slice (some ad260) t257.length c9_) : Value).ownBlock ∧ some k_ ≠ (v275 : Value).ownBlock ∧ k_ ≠ gb264)) (zd25 HL255_0.out) hg hat)
            have n3_ := aM (Kd.R_after (ok := (fun k_ => (w.heap.size ≤ k_) ∧ some k_ ≠ (v275 : Value).ownBlock ∧ k_ ≠ gb264)) (zd16 HO259.out) hg hat)
            have n4_ := aM (blk_grown (g := gb264) (o := .cells #[.int .i64 t261, .int .i64 t262, .int .i64 t263] 43 (0, 0)) (mB_ BK264.out) hg (Kd.R_away HO269.out (fun _ hk => hk.1.2)))
            have n5_ := aM (Kd.V_afterv (ok := (fun k_ => (w.heap.size ≤ k_) ∧ some k_ ≠ ((.slice (some ad260) t257.length c9_) : Value).ownBlock ∧ some k_ ≠ (v275 : Value).ownBlock ∧ k_ ≠ gb264)) (zd25 HL265_0.out) hg hat)
            have n6_ := aM (Kd.V_afterv (ok := (fun k_ => (w.heap.size ≤ k_) ∧ some k_ ≠ ((.slice (some ad260) t257.length c9_) : Value).ownBlock ∧ some k_ ≠ (v275 : Value).ownBlock ∧ k_ ≠ gb264)) (zd25 HL270_0.out) hg hat)
            have n7_ := aM (Kd.R_after (ok := (fun k_ => (w.heap.size ≤ k_) ∧ some k_ ≠ ((.slice (some ad260) t257.length c9_) : Value).ownBlock ∧ k_ ≠ gb264)) (zd17 HO276.out) hg hat)
            have n8_ := aM (hb)
            have n9_ := aM (ho)
            clear HO_3
            clear HO_5
            clear HL255_0
            clear HO259
            clear BK264
            clear HL265_0
            clear HL270_0
            clear HO276
            clear HB
            clear HO269
            have HO_3 := n0_
            have HO_5 := n1_
            have HL255_0 := n2_
            have HO259 := n3_
            have BK264 := n4_
            have HL265_0 := n5_
            have HL270_0 := n6_
            have HO276 := n7_
            have HB := n8_
            have HO273 := n9_
            clear n0_ n1_ n2_ n3_ n4_ n5_ n6_ n7_ n8_ n9_
            clear ho hb hg hat
            refine hK.out _ _ ⟨(blk_cell BK264.out 0).trans rfl, (blk_cell BK264.out 1).trans rfl, (blk_cell BK264.out 2).trans rfl, HS3_⟩ (fun hHeld => ?_)
            clear hK K
            refine norm_ (a' := ?_) ?_ ?_
            rotate_left
            ·show Act.put _ (some 63) _ = _
             simp only [Act.put, xA, xB, xC, i64_w, i32_w]
             rfl
            exact norm_ (by simp only [putAll, Act.put, xA, xB, xC]) (hCont (v268, v272, v275) _ ⟨hHeld, (zd26 HL255_0.out), (zd26 HL265_0.out), (zd26 HL270_0.out), (zd18 HO259.out), (mR_ HO273.out), (zd13 HO276.out), (zd26 HO_3.out), (zd26 HO_5.out), (mB_ BK264.out), (zs GE264.out)⟩)
          ·skip
           refine Kd.R_lit_step k43 _ 43 ?hg (N := 65) ?hd (xs := ([(⟨t261, t262, t263⟩ : S43)] : List (S43))) (inner := [.int .i64 t261, .int .i64 t262, .int .i64 t263]) (ok := fun _ => True) (okp := fun _ => True) ?hr ?hp (fun _ hk => hk) trivial (Below.refl _ _) (Nat.le_refl _) (by simp) ?_; (case hd => rfl); (case hg => rfl); (case hr => first | (go_simp; done) | (go_simp; rfl)); (case hp => exact (Reps.c3 (show Kd.M k43 _ _ _ (⟨t261, t262, t263⟩ : S43) [.int .i64 t261, .int .i64 t262, .int .i64 t263] from (k43_mkM _ _ _ (⟨t261, t262, t263⟩ : S43) )) (Reps.none _ _)))
           intro v275 w45 ho46 hb hg_ hnew_
           have HS3_ := zk hb (hHeld.2.2.2)
           clear hg_ hnew_
           (first | rw [← Ny274.out] at ho46 | (simp only [Int.reduceToNat] at ho46; rw [← Ny274.out] at ho46))
           have n0_ := aM (Kd.V_elder' (mV_ HO_3.out) (Kd.R_base ho46) hb)
           have n1_ := aM (Kd.V_elder' (mV_ HO_5.out) (Kd.R_base ho46) hb)
           have n2_ := aM (Kd.V_elder' (mV_ HL255_0.out) (Kd.R_base ho46) hb)
           have n3_ := aM (Kd.R_elder' (mR_ HO259.out) (Kd.R_base ho46) hb)
           have n4_ := aM (Kd.V_elder' (mV_ HL265_0.out) (Kd.R_base ho46) hb)
           have n5_ := aM (Kd.V_elder' (mV_ HL270_0.out) (Kd.R_base ho46) hb)
           have n6_ := aM (Kd.R_lower (Kd.R_newB (Kd.R_new' (Kd.R_newM (M := fun k_ => (w.heap.size ≤ k_)) ho46 (below_size (zs GE264.out)) (fun k_ h_ => h_)) (Kd.R_lt (mR_ HO259.out))) (g := gb264) (o := .cells #[.int .i64 t261, .int .i64 t262, .int .i64 t263] 43 (0, 0)) (mB_ BK264.out)) (below_size (zs GE264.out)))
           have n7_ := aM (blk_below (g := gb264) (o := .cells #[.int .i64 t261, .int .i64 t262, .int .i64 t263] 43 (0, 0)) (mB_ BK264.out) hb)
           have n8_ := aM (Kd.C_below (mQ_ HR265_0.out) hb)
           have n9_ := aM (Kd.C_below (mQ_ HR270_0.out) hb)
           have n10_ := aM (below_step (zs GE264.out) hb)
           clear HO_3
           clear HO_5
           clear HL255_0
           clear HO259
           clear HL265_0
           clear HL270_0
           clear BK264
           clear HR265_0
           clear HR270_0
           clear HB
           have HO_3 := n0_
           have HO_5 := n1_
           have HL255_0 := n2_
           have HO259 := n3_
           have HL265_0 := n4_
           have HL270_0 := n5_
           have HO276 := n6_
           have BK264 := n7_
           have HR265_0 := n8_
           have HR270_0 := n9_
           have HB := n10_
           clear n0_ n1_ n2_ n3_ n4_ n5_ n6_ n7_ n8_ n9_ n10_
           clear hb ho46
           refine hK.out _ _ ⟨(blk_cell BK264.out 0).trans rfl, (blk_cell BK264.out 1).trans rfl, (blk_cell BK264.out 2).trans rfl, HS3_⟩ (fun hHeld => ?_)
           clear hK K
           refine norm_ (a' := ?_) ?_ ?_
           rotate_left
           ·show Act.put _ (some 65) _ = _
            simp only [Act.put, xA, xB, xC, i64_w, i32_w]
            rfl
           refine one_ (i := 1) (N := some 58) zA97 rfl rfl (one_of HT_.out (by kernel_rfl)) (by decide) (fun K hK => ?_)
           refine Kd.R_lit_step k43 _ 43 ?hg (N := 58) ?hd (xs := ([] : List (S43))) (inner := []) (ok := fun _ => True) (okp := fun _ => True) ?hr ?hp (fun _ hk => hk) trivial (Below.refl _ _) (Nat.le_refl _) (by simp) ?_; (case hd => rfl); (case hg => rfl); (case hr => first | (go_simp; done) | (go_simp; rfl)); (case hp => exact (Reps.none _ _))
           intro v268 w47 ho48 hb hg_ hnew_
           have HS3_ := zk hb (hHeld.2.2.2)
           clear hg_ hnew_
           (first | rw [← Ny267.out] at ho48 | (simp only [Int.reduceToNat] at ho48; rw [← Ny267.out] at ho48))
           have n0_ := aM (Kd.V_elder' (mV_ HO_3.out) (Kd.R_base ho48) hb)
           have n1_ := aM (Kd.V_elder' (mV_ HO_5.out) (Kd.R_base ho48) hb)
           have n2_ := aM (Kd.V_elder' (mV_ HL255_0.out) (Kd.R_base ho48) hb)
           have n3_ := aM (Kd.R_elder' (mR_ HO259.out) (Kd.R_base ho48) hb)
           have n4_ := aM (Kd.V_elder' (mV_ HL265_0.out) (Kd.R_base ho48) hb)
           have n5_ := aM (Kd.V_elder' (mV_ HL270_0.out) (Kd.R_base ho48) hb)
           have n6_ := aM (Kd.R_elder' (mR_ HO276.out) (Kd.R_base ho48) hb)
           have n7_ := aM (Kd.R_lower (Kd.R_newB (Kd.R_new' (Kd.R_new' (Kd.R_newM (M := fun k_ => (w.heap.size ≤ k_)) ho48 (below_size (zs GE264.out)) (fun k_ h_ => h_)) (Kd.R_lt (mR_ HO259.out))) (Kd.R_lt (mR_ HO276.out))) (g := gb264) (o := .cells #[.int .i64 t261, .int .i64 t262, .int .i64 t263] 43 (0, 0)) (mB_ BK264.out)) (below_size (zs GE264.out)))
           have n8_ := aM (blk_below (g := gb264) (o := .cells #[.int .i64 t261, .int .i64 t262, .int .i64 t263] 43 (0, 0)) (mB_ BK264.out) hb)
           have n9_ := aM (Kd.C_below (mQ_ HR265_0.out) hb)
           have n10_ := aM (Kd.C_below (mQ_ HR270_0.out) hb)
           have n11_ := aM (below_step (zs GE264.out) hb)
           clear HO_3
           clear HO_5
           clear HL255_0
           clear HO259
           clear HL265_0
           clear HL270_0
           clear HO276
           clear BK264
           clear HR265_0
           clear HR270_0
           clear HB
           have HO_3 := n0_
           have HO_5 := n1_
           have HL255_0 := n2_
           have HO259 := n3_
           have HL265_0 := n4_
           have HL270_0 := n5_
           have HO276 := n6_
           have HO269 := n7_
           have BK264 := n8_
           have HR265_0 := n9_
           have HR270_0 := n10_
           have HB := n11_
           clear n0_ n1_ n2_ n3_ n4_ n5_ n6_ n7_ n8_ n9_ n10_ n11_
           clear hb ho48
           refine hK.out _ _ ⟨(blk_cell BK264.out 0).trans rfl, (blk_cell BK264.out 1).trans rfl, (blk_cell BK264.out 2).trans rfl, HS3_⟩ (fun hHeld => ?_)
           clear hK K
           refine norm_ (a' := ?_) ?_ ?_
           rotate_left
           ·show Act.put _ (some 58) _ = _
            simp only [Act.put, xA, xB, xC, i64_w, i32_w]
            rfl
           refine one_ (i := 6) (N := some 63) zA80 rfl rfl (one_of HT_.out (by kernel_rfl)) (by decide) (fun K hK => ?_)
           refine Kd.R_append_rows_step k43 (w0 := w) w.heap.size (by rfl) (.tmp 58) (.tmp 62) 40 43 (.agg #[(.int .i64 0), (.int .i64 0), (.int .i64 0)]) 24 rfl Try.underlying40 info43 rfl (by decide) (by omega) v268 y267 (rd_L2 x3_1 x6_2) _ _ _ (fun k_ => (w.heap.size ≤ k_) ∧ some k_ ≠ ((.slice (some ad260) t257.length c9_) : Value).ownBlock ∧ some k_ ≠ (v275 : Value).ownBlock ∧ k_ ≠ gb264) (fun _ => False) rfl rfl ?aO ?aR (fun _ _ h => h) (fun _ h => h.elim) ?aF ?aB ?aS ?aL ?_
           (case aR => repeat (first | exact (mQ_ HR270_0.out) | (with_reducible refine Kd.C_alloc ?_ _) | (with_reducible refine Kd.C_drewN ?_ _) | (with_reducible refine Kd.C_drew ?_)))
           (case aB => exact (zs GE264.out))
           (case aF => exact (fun k_ hk => ⟨(Nat.le_trans (below_size (zs GE264.out)) hk), Kd.fresh' (Kd.R_lt (mR_ HO259.out)) k_ hk, Kd.fresh' (Kd.R_lt (mR_ HO276.out)) k_ hk, Kd.freshB (g := gb264) (o := .cells #[.int .i64 t261, .int .i64 t262, .int .i64 t263] 43 (0, 0)) (mB_ BK264.out) k_ hk⟩))
           (case aO => exact (zd14 HO269.out))
           (case aS => exact (below_size (zs GE264.out)))
           (case aL => have := LMc26.out; omega)
           intro v272 w49 ho hb hg hat
           have HS3_ := cell_grown9_ hg (hHeld.2.2.2) (by first | (rw [add_block]; exact (by have h9_ := V_in9_ HO_3.out (by decide) PV254.out; first | exact h9_.2 | exact h9_.1 | exact h9_.2.1 | exact h9_.2.2.1 | exact h9_.2.2.2.1 | exact h9_.2.2.2.2.1 | exact h9_.2.2.2.2.2.1 | exact h9_.2.2.2.2.2.2.1 | exact h9_.2.2.2.2.2.2.2.1 | exact h9_.2.2 | exact h9_.2.2.2 | exact h9_.2.2.2.2 | exact h9_.2.2.2.2.2 | exact h9_.2.2.2.2.2.2 | exact h9_.2.2.2.2.2.2.2 | exact h9_.1.1 | exact h9_.1.2.1 | exact h9_.1.2.2.1 | exact h9_.1.2.2.2.1 | exact h9_.1.2.2.2.2.1 | exact h9_.1.2.2.2.2.2.1 | exact h9_.1.2.2.2.2.2.2.1 | exact h9_.1.2 | exact h9_.1.2.2 | exact h9_.1.2.2.2 | exact h9_.1.2.2.2.2 | exact h9_.1.2.2.2.2.2 | exact h9_.1.2.2.2.2.2.2)) | (show some (Addr.add _ _).block ≠ _; rw [add_block]; exact (by have h9_ := V_in9_ HO_3.out (by decide) PV254.out; first | exact h9_.2 | exact h9_.1 | exact h9_.2.1 | exact h9_.2.2.1 | exact h9_.2.2.2.1 | exact h9_.2.2.2.2.1 | exact h9_.2.2.2.2.2.1 | exact h9_.2.2.2.2.2.2.1 | exact h9_.2.2.2.2.2.2.2.1 | exact h9_.2.2 | exact h9_.2.2.2 | exact h9_.2.2.2.2 | exact h9_.2.2.2.2.2 | exact h9_.2.2.2.2.2.2 | exact h9_.2.2.2.2.2.2.2 | exact h9_.1.1 | exact h9_.1.2.1 | exact h9_.1.2.2.1 | exact h9_.1.2.2.2.1 | exact h9_.1.2.2.2.2.1 | exact h9_.1.2.2.2.2.2.1 | exact h9_.1.2.2.2.2.2.2.1 | exact h9_.1.2 | exact h9_.1.2.2 | exact h9_.1.2.2.2 | exact h9_.1.2.2.2.2 | exact h9_.1.2.2.2.2.2 | exact h9_.1.2.2.2.2.2.2)) | exact (by have h9_ := V_in9_ HO_3.out (by decide) PV254.out; first | exact h9_.2 | exact h9_.1 | exact h9_.2.1 | exact h9_.2.2.1 | exact h9_.2.2.2.1 | exact h9_.2.2.2.2.1 | exact h9_.2.2.2.2.2.1 | exact h9_.2.2.2.2.2.2.1 | exact h9_.2.2.2.2.2.2.2.1 | exact h9_.2.2 | exact h9_.2.2.2 | exact h9_.2.2.2.2 | exact h9_.2.2.2.2.2 | exact h9_.2.2.2.2.2.2 | exact h9_.2.2.2.2.2.2.2 | exact h9_.1.1 | exact h9_.1.2.1 | exact h9_.1.2.2.1 | exact h9_.1.2.2.2.1 | exact h9_.1.2.2.2.2.1 | exact h9_.1.2.2.2.2.2.1 | exact h9_.1.2.2.2.2.2.2.1 | exact h9_.1.2 | exact h9_.1.2.2 | exact h9_.1.2.2.2 | exact h9_.1.2.2.2.2 | exact h9_.1.2.2.2.2.2 | exact h9_.1.2.2.2.2.2.2))
           rw [← Ny271.out] at ho
           have n0_ := aM (Kd.V_afterv (ok := (fun k_ => (w.heap.size ≤ k_) ∧ some k_ ≠ ((.slice (some ad260) t257.length c9_) : Value).ownBlock ∧ some k_ ≠ (v275 : Value).ownBlock ∧ k_ ≠ gb264)) (zd27 HO_3.out) hg hat)
           have n1_ := aM (Kd.V_afterv (ok := (fun k_ => (w.heap.size ≤ k_) ∧ some k_ ≠ ((.slice (some ad260) t257.length c9_) : Value).ownBlock ∧ some k_ ≠ (v275 : Value).ownBlock ∧ k_ ≠ gb264)) (zd27 HO_5.out) hg hat)
           have n2_ := aM (Kd.V_afterv (ok := (fun k_ => (w.heap.size ≤ k_) ∧ some k_ ≠ ((.slice (some ad260) t257.length c9_) : Value).ownBlock ∧ some k_ ≠ (v275 : Value).ownBlock ∧ k_ ≠ gb264)) (zd27 HL255_0.out) hg hat)
           have n3_ := aM (Kd.R_after (ok := (fun k_ => (w.heap.size ≤ k_) ∧ some k_ ≠ (v275 : Value).ownBlock ∧ k_ ≠ gb264)) (zd19 HO259.out) hg hat)
           have n4_ := aM (blk_grown (g := gb264) (o := .cells #[.int .i64 t261, .int .i64 t262, .int .i64 t263] 43 (0, 0)) (mB_ BK264.out) hg (Kd.R_away HO269.out (fun _ hk => hk.2)))
           have n5_ := aM (Kd.V_afterv (ok := (fun k_ => (w.heap.size ≤ k_) ∧ some k_ ≠ ((.slice (some ad260) t257.length c9_) : Value).ownBlock ∧ some k_ ≠ (v275 : Value).ownBlock ∧ k_ ≠ gb264)) (zd27 HL265_0.out) hg hat)
           have n6_ := aM (Kd.V_afterv (ok := (fun k_ => (w.heap.size ≤ k_) ∧ some k_ ≠ ((.slice (some ad260) t257.length c9_) : Value).ownBlock ∧ some k_ ≠ (v275 : Value).ownBlock ∧ k_ ≠ gb264)) (zd27 HL270_0.out) hg hat)
           have n7_ := aM (Kd.R_after (ok := (fun k_ => (w.heap.size ≤ k_) ∧ some k_ ≠ ((.slice (some ad260) t257.length c9_) : Value).ownBlock ∧ k_ ≠ gb264)) (zd20 HO276.out) hg hat)
           have n8_ := aM (hb)
           have n9_ := aM (ho)
           clear HO_3
           clear HO_5
           clear HL255_0
           clear HO259
           clear BK264
           clear HL265_0
           clear HL270_0
           clear HO276
           clear HB
           clear HO269
           have HO_3 := n0_
           have HO_5 := n1_
           have HL255_0 := n2_
           have HO259 := n3_
           have BK264 := n4_
           have HL265_0 := n5_
           have HL270_0 := n6_
           have HO276 := n7_
           have HB := n8_
           have HO273 := n9_
           clear n0_ n1_ n2_ n3_ n4_ n5_ n6_ n7_ n8_ n9_
           clear ho hb hg hat
           refine hK.out _ _ ⟨(blk_cell BK264.out 0).trans rfl, (blk_cell BK264.out 1).trans rfl, (blk_cell BK264.out 2).trans rfl, HS3_⟩ (fun hHeld => ?_)
           clear hK K
           refine norm_ (a' := ?_) ?_ ?_
           rotate_left
           ·show Act.put _ (some 63) _ = _
            simp only [Act.put, xA, xB, xC, i64_w, i32_w]
            rfl
           exact norm_ (by simp only [putAll, Act.put, xA, xB, xC]) (hCont (v268, v272, v275) _ ⟨hHeld, (zd26 HL255_0.out), (zd26 HL265_0.out), (zd26 HL270_0.out), (zd18 HO259.out), (mR_ HO273.out), (zd13 HO276.out), (zd26 HO_3.out), (zd26 HO_5.out), (mB_ BK264.out), (zs GE264.out)⟩)
         rintro ⟨v268, v272, v275⟩ w50 ⟨hS_, h0_, h1_, h2_, h3_, h4_, h5_, h6_, h7_, h8_, h9_⟩
         have n0_ : Aside0 (Kd.V k43 43 w50 w.heap.size (fun k_ => (w.heap.size ≤ k_) ∧ some k_ ≠ ((.slice (some ad260) t257.length c9_) : Value).ownBlock ∧ some k_ ≠ (v272 : Value).ownBlock ∧ some k_ ≠ (v275 : Value).ownBlock ∧ k_ ≠ gb264) (.slice (some ad256) (rd_L2 x3_1 x6_2).length c255_0) (rd_L2 x3_1 x6_2)) := ⟨h0_⟩
         have n1_ : Aside0 (Kd.V k43 43 w50 w.heap.size (fun k_ => (w.heap.size ≤ k_) ∧ some k_ ≠ ((.slice (some ad260) t257.length c9_) : Value).ownBlock ∧ some k_ ≠ (v272 : Value).ownBlock ∧ some k_ ≠ (v275 : Value).ownBlock ∧ k_ ≠ gb264) (.slice A265_0 (rd_L2 x3_1 x6_2).length c265_0) (rd_L2 x3_1 x6_2)) := ⟨h1_⟩
         have n2_ : Aside0 (Kd.V k43 43 w50 w.heap.size (fun k_ => (w.heap.size ≤ k_) ∧ some k_ ≠ ((.slice (some ad260) t257.length c9_) : Value).ownBlock ∧ some k_ ≠ (v272 : Value).ownBlock ∧ some k_ ≠ (v275 : Value).ownBlock ∧ k_ ≠ gb264) (.slice A270_0 (rd_L2 x3_1 x6_2).length c270_0) (rd_L2 x3_1 x6_2)) := ⟨h2_⟩
         have n3_ : Aside0 (Kd.R k43 43 w50 w.heap.size (fun k_ => (w.heap.size ≤ k_) ∧ some k_ ≠ (v272 : Value).ownBlock ∧ some k_ ≠ (v275 : Value).ownBlock ∧ k_ ≠ gb264) (.slice (some ad260) t257.length c9_) t257) := ⟨h3_⟩
         have n4_ : Aside0 (Kd.R k43 43 w50 w.heap.size (fun k_ => (w.heap.size ≤ k_) ∧ some k_ ≠ ((.slice (some ad260) t257.length c9_) : Value).ownBlock ∧ some k_ ≠ (v275 : Value).ownBlock ∧ k_ ≠ gb264) v272 y271) := ⟨h4_⟩
         have n5_ : Aside0 (Kd.R k43 43 w50 w.heap.size (fun k_ => (w.heap.size ≤ k_) ∧ some k_ ≠ ((.slice (some ad260) t257.length c9_) : Value).ownBlock ∧ some k_ ≠ (v272 : Value).ownBlock ∧ k_ ≠ gb264) v275 y274) := ⟨h5_⟩
         have n6_ : Aside0 (Kd.V (Kd.slice 43 k43) 40 w50 w.heap.size (fun k_ => (w.heap.size ≤ k_) ∧ some k_ ≠ ((.slice (some ad260) t257.length c9_) : Value).ownBlock ∧ some k_ ≠ (v272 : Value).ownBlock ∧ some k_ ≠ (v275 : Value).ownBlock ∧ k_ ≠ gb264) (.slice (some ad254) x3_1.length co11) x3_1) := ⟨h6_⟩
         have n7_ : Aside0 (Kd.V (Kd.slice 43 k43) 40 w50 w.heap.size (fun k_ => (w.heap.size ≤ k_) ∧ some k_ ≠ ((.slice (some ad260) t257.length c9_) : Value).ownBlock ∧ some k_ ≠ (v272 : Value).ownBlock ∧ some k_ ≠ (v275 : Value).ownBlock ∧ k_ ≠ gb264) (.slice Ao43 x5_4.length co43) x5_4) := ⟨h7_⟩
         have n8_ : Aside0 (w50.heap[gb264]? = some (.cells #[.int .i64 t261, .int .i64 t262, .int .i64 t263] 43 (0, 0))) := ⟨h8_⟩
         have n9_ : Aside0 (Below w.heap.size w w50) := ⟨h9_⟩
         clear HO_3
         clear HO_5
         clear HL255_0
         clear HO259
         clear HL265_0
         clear BK264
         clear HR265_0
         clear HB
         clear h0_ h1_ h2_ h3_ h4_ h5_ h6_ h7_ h8_ h9_
         have HL255_0 := n0_
         have HL265_0 := n1_
         have HL270_0 := n2_
         have HO259 := n3_
         have HO273 := n4_
         have HO276 := n5_
         have HO_3 := n6_
         have HO_5 := n7_
         have BK264 := n8_
         have HB := n9_
         clear n0_ n1_ n2_ n3_ n4_ n5_ n6_ n7_ n8_ n9_
         have hHeld : w50.cell? ⟨gb264, 0, none⟩ = some (.int .i64 t261) ∧ w50.cell? ⟨gb264, 1, none⟩ = some (.int .i64 t262) ∧ w50.cell? ⟨gb264, 2, none⟩ = some (.int .i64 t263) ∧ w50.cell? (ad254.add (x6_2).toNat) = some (.slice A270_0 (rd_L2 x3_1 x6_2).length c270_0) := hS_
         obtain ⟨Ao52, co52, eo52⟩ := Kd.R_slice HO276.out
         (first | subst eo52 | (injection eo52 with f1_ f2_ f3_; have f4_ := f1_.symm; have f5_ := f3_.symm; clear f1_ f2_ f3_; subst f4_; subst f5_))
         refine norm_ (a' := ?_) ?_ ?_
         rotate_left
         ·simp only [putAll, Act.put, xA, xB, xC]
          rfl
         refine one_ (i := 9) (N := some 66) zA82 rfl rfl (one_of HT_.out (by kernel_rfl)) (by decide) (fun K hK => ?_)
         refine Kd.R_append_rows_step k43 (w0 := w) w.heap.size (by rfl) (.tmp 63) (.tmp 65) 40 43 (.agg #[(.int .i64 0), (.int .i64 0), (.int .i64 0)]) 24 rfl Try.underlying40 info43 rfl (by decide) (by omega) v272 y271 y274 _ _ _ (fun k_ => (w.heap.size ≤ k_) ∧ some k_ ≠ ((.slice (some ad260) t257.length c9_) : Value).ownBlock ∧ some k_ ≠ (.slice Ao52 y274.length co52 : Value).ownBlock ∧ k_ ≠ gb264) (fun _ => False) rfl rfl ?aO ?aR (fun _ _ h => h) (fun _ h => h.elim) ?aF ?aB ?aS ?aL ?_
         (case aR => exact zc HO276.out)
         (case aB => exact (zs GE264.out))
         (case aF => exact (fun k_ hk => ⟨(Nat.le_trans (below_size (zs GE264.out)) hk), Kd.fresh' (Kd.R_lt (mR_ HO259.out)) k_ hk, Kd.fresh' (Kd.R_lt (mR_ HO276.out)) k_ hk, Kd.freshB (g := gb264) (o := .cells #[.int .i64 t261, .int .i64 t262, .int .i64 t263] 43 (0, 0)) (mB_ BK264.out) k_ hk⟩))
         (case aO => exact (mR_ HO273.out))
         (case aS => exact (below_size (zs GE264.out)))
         (case aL => have := LMc27.out; omega)
         intro v278 w51 ho hb hg hat
         have HS3_ := cell_grown9_ hg (hHeld.2.2.2) (by first | (rw [add_block]; exact (by have h9_ := V_in9_ HO_3.out (by decide) PV254.out; first | exact h9_.2 | exact h9_.1 | exact h9_.2.1 | exact h9_.2.2.1 | exact h9_.2.2.2.1 | exact h9_.2.2.2.2.1 | exact h9_.2.2.2.2.2.1 | exact h9_.2.2.2.2.2.2.1 | exact h9_.2.2.2.2.2.2.2.1 | exact h9_.2.2 | exact h9_.2.2.2 | exact h9_.2.2.2.2 | exact h9_.2.2.2.2.2 | exact h9_.2.2.2.2.2.2 | exact h9_.2.2.2.2.2.2.2 | exact h9_.1.1 | exact h9_.1.2.1 | exact h9_.1.2.2.1 | exact h9_.1.2.2.2.1 | exact h9_.1.2.2.2.2.1 | exact h9_.1.2.2.2.2.2.1 | exact h9_.1.2.2.2.2.2.2.1 | exact h9_.1.2 | exact h9_.1.2.2 | exact h9_.1.2.2.2 | exact h9_.1.2.2.2.2 | exact h9_.1.2.2.2.2.2 | exact h9_.1.2.2.2.2.2.2)) | (show some (Addr.add _ _).block ≠ _; rw [add_block]; exact (by have h9_ := V_in9_ HO_3.out (by decide) PV254.out; first | exact h9_.2 | exact h9_.1 | exact h9_.2.1 | exact h9_.2.2.1 | exact h9_.2.2.2.1 | exact h9_.2.2.2.2.1 | exact h9_.2.2.2.2.2.1 | exact h9_.2.2.2.2.2.2.1 | exact h9_.2.2.2.2.2.2.2.1 | exact h9_.2.2 | exact h9_.2.2.2 | exact h9_.2.2.2.2 | exact h9_.2.2.2.2.2 | exact h9_.2.2.2.2.2.2 | exact h9_.2.2.2.2.2.2.2 | exact h9_.1.1 | exact h9_.1.2.1 | exact h9_.1.2.2.1 | exact h9_.1.2.2.2.1 | exact h9_.1.2.2.2.2.1 | exact h9_.1.2.2.2.2.2.1 | exact h9_.1.2.2.2.2.2.2.1 | exact h9_.1.2 | exact h9_.1.2.2 | exact h9_.1.2.2.2 | exact h9_.1.2.2.2.2 | exact h9_.1.2.2.2.2.2 | exact h9_.1.2.2.2.2.2.2)) | exact (by have h9_ := V_in9_ HO_3.out (by decide) PV254.out; first | exact h9_.2 | exact h9_.1 | exact h9_.2.1 | exact h9_.2.2.1 | exact h9_.2.2.2.1 | exact h9_.2.2.2.2.1 | exact h9_.2.2.2.2.2.1 | exact h9_.2.2.2.2.2.2.1 | exact h9_.2.2.2.2.2.2.2.1 | exact h9_.2.2 | exact h9_.2.2.2 | exact h9_.2.2.2.2 | exact h9_.2.2.2.2.2 | exact h9_.2.2.2.2.2.2 | exact h9_.2.2.2.2.2.2.2 | exact h9_.1.1 | exact h9_.1.2.1 | exact h9_.1.2.2.1 | exact h9_.1.2.2.2.1 | exact h9_.1.2.2.2.2.1 | exact h9_.1.2.2.2.2.2.1 | exact h9_.1.2.2.2.2.2.2.1 | exact h9_.1.2 | exact h9_.1.2.2 | exact h9_.1.2.2.2 | exact h9_.1.2.2.2.2 | exact h9_.1.2.2.2.2.2 | exact h9_.1.2.2.2.2.2.2))
         rw [← Ny277.out] at ho
         have n0_ := aM (Kd.V_afterv (ok := (fun k_ => (w.heap.size ≤ k_) ∧ some k_ ≠ ((.slice (some ad260) t257.length c9_) : Value).ownBlock ∧ some k_ ≠ (.slice Ao52 y274.length co52 : Value).ownBlock ∧ k_ ≠ gb264)) (zd28 HO_3.out) hg hat)
         have n1_ := aM (Kd.V_afterv (ok := (fun k_ => (w.heap.size ≤ k_) ∧ some k_ ≠ ((.slice (some ad260) t257.length c9_) : Value).ownBlock ∧ some k_ ≠ (.slice Ao52 y274.length co52 : Value).ownBlock ∧ k_ ≠ gb264)) (zd28 HO_5.out) hg hat)
         have n2_ := aM (Kd.V_afterv (ok := (fun k_ => (w.heap.size ≤ k_) ∧ some k_ ≠ ((.slice (some ad260) t257.length c9_) : Value).ownBlock ∧ some k_ ≠ (.slice Ao52 y274.length co52 : Value).ownBlock ∧ k_ ≠ gb264)) (zd28 HL255_0.out) hg hat)
         have n3_ := aM (Kd.R_after (ok := (fun k_ => (w.heap.size ≤ k_) ∧ some k_ ≠ (.slice Ao52 y274.length co52 : Value).ownBlock ∧ k_ ≠ gb264)) (zd21 HO259.out) hg hat)
         have n4_ := aM (blk_grown (g := gb264) (o := .cells #[.int .i64 t261, .int .i64 t262, .int .i64 t263] 43 (0, 0)) (mB_ BK264.out) hg (Kd.R_away HO273.out (fun _ hk => hk.2.2.2)))
         have n5_ := aM (Kd.V_afterv (ok := (fun k_ => (w.heap.size ≤ k_) ∧ some k_ ≠ ((.slice (some ad260) t257.length c9_) : Value).ownBlock ∧ some k_ ≠ (.slice Ao52 y274.length co52 : Value).ownBlock ∧ k_ ≠ gb264)) (zd28 HL265_0.out) hg hat)
         have n6_ := aM (Kd.V_afterv (ok := (fun k_ => (w.heap.size ≤ k_) ∧ some k_ ≠ ((.slice (some ad260) t257.length c9_) : Value).ownBlock ∧ some k_ ≠ (.slice Ao52 y274.length co52 : Value).ownBlock ∧ k_ ≠ gb264)) (zd28 HL270_0.out) hg hat)
         have n7_ := aM (Kd.R_after (ok := (fun k_ => (w.heap.size ≤ k_) ∧ some k_ ≠ ((.slice (some ad260) t257.length c9_) : Value).ownBlock ∧ k_ ≠ gb264)) (zd22 HO276.out) hg hat)
         have n8_ := aM (hb)
         have n9_ := aM (ho)
         clear HO_3
         clear HO_5
         clear HL255_0
         clear HO259
         clear BK264
         clear HL265_0
         clear HL270_0
         clear HO276
         clear HB
         clear HO273
         have HO_3 := n0_
         have HO_5 := n1_
         have HL255_0 := n2_
         have HO259 := n3_
         have BK264 := n4_
         have HL265_0 := n5_
         have HL270_0 := n6_
         have HO276 := n7_
         have HB := n8_
         have HO279 := n9_
         clear n0_ n1_ n2_ n3_ n4_ n5_ n6_ n7_ n8_ n9_
         clear ho hb hg hat
         obtain ⟨Ao53, co53, eo53⟩ := Kd.R_slice HO279.out
         (first | subst eo53 | (injection eo53 with f1_ f2_ f3_; have f4_ := f1_.symm; have f5_ := f3_.symm; clear f1_ f2_ f3_; subst f4_; subst f5_))
         refine hK.out _ _ ⟨(blk_cell BK264.out 0).trans rfl, (blk_cell BK264.out 1).trans rfl, (blk_cell BK264.out 2).trans rfl, HS3_⟩ (fun hHeld => ?_)
         clear hK K
         refine norm_ (a' := ?_) ?_ ?_
         rotate_left
         ·show Act.put _ (some 66) _ = _
          simp only [Act.put, xA, xB, xC, i64_w, i32_w]
          rfl
         refine one_ (i := 10) (N := some 67) zA83 rfl rfl (one_of HT_.out (by kernel_rfl)) (by decide) (fun K hK => ?_)
         refine goes_ Try.func30 (by kernel_rfl) rfl #[.slice Ao53 y277.length co53] (by rfl) rfl rfl zm ?_
         with_reducible refine (spec_l09Sort.calls k4 _ _ y277 t280 _ ?side1 ?side2 A28.out).mono ?_
         (case side1 => exact zc HO279.out)
         (case side2 => exact (Kd.R_reads' HO279.out).2.1)
         rintro e w54 ⟨v281, rfl, ho0, hb⟩
         have HS3_ := zk hb (hHeld.2.2.2)
         refine ⟨_, rfl, ?_⟩
         have n0_ := aM (Kd.V_elder' (mV_ HO_3.out) (Kd.R_base ho0) hb)
         have n1_ := aM (Kd.V_elder' (mV_ HO_5.out) (Kd.R_base ho0) hb)
         have n2_ := aM (Kd.V_elder' (mV_ HL255_0.out) (Kd.R_base ho0) hb)
         have n3_ := aM (Kd.R_elder' (mR_ HO259.out) (Kd.R_base ho0) hb)
         have n4_ := aM (Kd.V_elder' (mV_ HL265_0.out) (Kd.R_base ho0) hb)
         have n5_ := aM (Kd.V_elder' (mV_ HL270_0.out) (Kd.R_base ho0) hb)
         have n6_ := aM (Kd.R_elder' (mR_ HO276.out) (Kd.R_base ho0) hb)
         have n7_ := aM (Kd.R_elder' (mR_ HO279.out) (Kd.R_base ho0) hb)
         have n8_ := aM (Kd.R_lower (Kd.R_newB (Kd.R_new' (Kd.R_new' (Kd.R_new' (Kd.R_newM (M := fun k_ => (w.heap.size ≤ k_)) ho0 (below_size (zs GE264.out)) (fun k_ h_ => h_)) (Kd.R_lt (mR_ HO259.out))) (Kd.R_lt (mR_ HO276.out))) (Kd.R_lt (mR_ HO279.out))) (g := gb264) (o := .cells #[.int .i64 t261, .int .i64 t262, .int .i64 t263] 43 (0, 0)) (mB_ BK264.out)) (below_size (zs GE264.out)))
         have n9_ := aM (blk_below (g := gb264) (o := .cells #[.int .i64 t261, .int .i64 t262, .int .i64 t263] 43 (0, 0)) (mB_ BK264.out) hb)
         have n10_ := aM (below_step (zs GE264.out) hb)
         clear HO_3
         clear HO_5
         clear HL255_0
         clear HO259
         clear HL265_0
         clear HL270_0
         clear HO276
         clear HO279
         clear BK264
         clear HB
         have HO_3 := n0_
         have HO_5 := n1_
         have HL255_0 := n2_
         have HO259 := n3_
         have HL265_0 := n4_
         have HL270_0 := n5_
         have HO276 := n6_
         have HO279 := n7_
         have HO282 := n8_
         have BK264 := n9_
         have HB := n10_
         clear n0_ n1_ n2_ n3_ n4_ n5_ n6_ n7_ n8_ n9_ n10_
         (try clear hb)
         (try clear hb2)
         (try clear hk)
         (try clear hi)
         (try clear ho0)
         obtain ⟨Ao55, co55, eo55⟩ := Kd.R_slice HO282.out
         (first | subst eo55 | (injection eo55 with f1_ f2_ f3_; have f4_ := f1_.symm; have f5_ := f3_.symm; clear f1_ f2_ f3_; subst f4_; subst f5_))
         refine hK.out _ _ ⟨(blk_cell BK264.out 0).trans rfl, (blk_cell BK264.out 1).trans rfl, (blk_cell BK264.out 2).trans rfl, HS3_⟩ (fun hHeld => ?_)
         clear hK K
         refine norm_ (a' := ?_) ?_ ?_
         rotate_left
         ·show Act.put _ (some 67) _ = _
          simp only [Act.put, xA, xB, xC, i64_w, i32_w]
          rfl
         refine one_ (i := 11) (N := some 68) zA84 rfl rfl (one_of HT_.out (by kernel_rfl)) (by decide) (fun K hK => ?_)
         refine goes_ Try.func29 (by kernel_rfl) rfl #[.slice Ao55 t280.length co55] (by rfl) rfl rfl zm ?_
         with_reducible refine (spec_l09Normal.calls k4 _ _ t280 t283 _ ?side1 ?side2 A29.out).mono ?_
         (case side1 => exact zc HO282.out)
         (case side2 => exact (Kd.R_reads' HO282.out).2.1)
         rintro e w56 ⟨v284, rfl, ho0, hb⟩
         have HS3_ := zk hb (hHeld.2.2.2)
         refine ⟨_, rfl, ?_⟩
         have n0_ := aM (Kd.V_elder' (mV_ HO_3.out) (Kd.R_base ho0) hb)
         have n1_ := aM (Kd.V_elder' (mV_ HO_5.out) (Kd.R_base ho0) hb)
         have n2_ := aM (Kd.V_elder' (mV_ HL255_0.out) (Kd.R_base ho0) hb)
         have n3_ := aM (Kd.R_elder' (mR_ HO259.out) (Kd.R_base ho0) hb)
         have n4_ := aM (Kd.V_elder' (mV_ HL265_0.out) (Kd.R_base ho0) hb)
         have n5_ := aM (Kd.V_elder' (mV_ HL270_0.out) (Kd.R_base ho0) hb)
         have n6_ := aM (Kd.R_elder' (mR_ HO276.out) (Kd.R_base ho0) hb)
         have n7_ := aM (Kd.R_elder' (mR_ HO279.out) (Kd.R_base ho0) hb)
         have n8_ := aM (Kd.R_elder' (mR_ HO282.out) (Kd.R_base ho0) hb)
         have n9_ := aM (Kd.R_lower (Kd.R_newB (Kd.R_new' (Kd.R_new' (Kd.R_new' (Kd.R_new' (Kd.R_newM (M := fun k_ => (w.heap.size ≤ k_)) ho0 (below_size (zs GE264.out)) (fun k_ h_ => h_)) (Kd.R_lt (mR_ HO259.out))) (Kd.R_lt (mR_ HO276.out))) (Kd.R_lt (mR_ HO279.out))) (Kd.R_lt (mR_ HO282.out))) (g := gb264) (o := .cells #[.int .i64 t261, .int .i64 t262, .int .i64 t263] 43 (0, 0)) (mB_ BK264.out)) (below_size (zs GE264.out)))
         have n10_ := aM (blk_below (g := gb264) (o := .cells #[.int .i64 t261, .int .i64 t262, .int .i64 t263] 43 (0, 0)) (mB_ BK264.out) hb)
         have n11_ := aM (below_step (zs GE264.out) hb)
         clear HO_3
         clear HO_5
         clear HL255_0
         clear HO259
         clear HL265_0
         clear HL270_0
         clear HO276
         clear HO279
         clear HO282
         clear BK264
         clear HB
         have HO_3 := n0_
         have HO_5 := n1_
         have HL255_0 := n2_
         have HO259 := n3_
         have HL265_0 := n4_
         have HL270_0 := n5_
         have HO276 := n6_
         have HO279 := n7_
         have HO282 := n8_
         have HO285 := n9_
         have BK264 := n10_
         have HB := n11_
         clear n0_ n1_ n2_ n3_ n4_ n5_ n6_ n7_ n8_ n9_ n10_ n11_
         (try clear hb)
         (try clear hb2)
         (try clear hk)
         (try clear hi)
         (try clear ho0)
         obtain ⟨Ao57, co57, eo57⟩ := Kd.R_slice HO285.out
         (first | subst eo57 | (injection eo57 with f1_ f2_ f3_; have f4_ := f1_.symm; have f5_ := f3_.symm; clear f1_ f2_ f3_; subst f4_; subst f5_))
         refine hK.out _ _ ⟨(blk_cell BK264.out 0).trans rfl, (blk_cell BK264.out 1).trans rfl, (blk_cell BK264.out 2).trans rfl, HS3_⟩ (fun hHeld => ?_)
         clear hK K
         refine norm_ (a' := ?_) ?_ ?_
         rotate_left
         ·show Act.put _ (some 68) _ = _
          simp only [Act.put, xA, xB, xC, i64_w, i32_w]
          rfl
         refine one_ (i := 12) (N := some 69) zA79 rfl rfl (one_of HT_.out (by kernel_rfl)) (by decide) (fun K hK => ?_)
         refine goes_ Try.func28 (by kernel_rfl) rfl #[.slice Ao43 x5_4.length co43, .slice Ao57 t283.length co57] (by rfl) rfl rfl zm ?_
         with_reducible refine (spec_l09Insert.calls k4 (fun k_ => (((((w.heap.size ≤ k_) ∧ (some k_ ≠ ((.slice (some ad260) t257.length c9_) : Value).ownBlock ∧ (some k_ ≠ (.slice Ao52 y274.length co52 : Value).ownBlock ∧ k_ ≠ gb264))) ∧ some k_ ≠ (.slice Ao53 y277.length co53 : Value).ownBlock) ∧ some k_ ≠ (.slice Ao55 t280.length co55 : Value).ownBlock) ∧ some k_ ≠ (.slice Ao57 t283.length co57 : Value).ownBlock)) _ _ x5_4 (fun k_ => some k_ = (.slice Ao57 t283.length co57 : Value).ownBlock) _ _ t283 t286 _ ?side1 ?side2 A30.out).mono ?_
         (case side1 => exact HO_5.out)
         (case side2 => exact Kd.R_V (Kd.R_tight rfl (HO285.out)))
         rintro e w58 ⟨v287, rfl, ho0, hb⟩
         have HS3_ := zk hb (hHeld.2.2.2)
         refine ⟨_, rfl, ?_⟩
         have n0_ := aM (Kd.V_below (mV_ HO_3.out) hb)
         have n1_ := aM (Kd.V_below (mV_ HO_5.out) hb)
         have n2_ := aM (Kd.V_below (mV_ HL255_0.out) hb)
         have n3_ := aM (Kd.R_below (mR_ HO259.out) hb)
         have n4_ := aM (Kd.V_below (mV_ HL265_0.out) hb)
         have n5_ := aM (Kd.V_below (mV_ HL270_0.out) hb)
         have n6_ := aM (Kd.R_below (mR_ HO276.out) hb)
         have n7_ := aM (Kd.R_below (mR_ HO279.out) hb)
         have n8_ := aM (Kd.R_below (mR_ HO282.out) hb)
         have n9_ := aM (Kd.R_below (mR_ HO285.out) hb)
         have n10_ := aM (Kd.V_lower (Kd.V_mono (ok' := fun k_ => (w.heap.size ≤ k_) ∧ some k_ ≠ ((.slice (some ad260) t257.length c9_) : Value).ownBlock ∧ some k_ ≠ (.slice Ao52 y274.length co52 : Value).ownBlock ∧ some k_ ≠ (.slice Ao53 y277.length co53 : Value).ownBlock ∧ some k_ ≠ (.slice Ao55 t280.length co55 : Value).ownBlock ∧ k_ ≠ gb264) ho0 (fun k_ hk_ => ⟨Or.elim hk_ (fun hs_ => Or.elim hs_ (fun hs_ => hs_.1.1.1.1) (fun hs_ => ((HO285.out).1 k_ hs_.symm).1.1.1.1.1.1)) (fun hn_ => (Nat.le_trans (below_size (zs GE264.out)) hn_)), Or.elim hk_ (fun hs_ => Or.elim hs_ (fun hs_ => hs_.1.1.1.2.1) (fun hs_ => ((HO285.out).1 k_ hs_.symm).1.1.1.1.2)) (fun hn_ => (Kd.fresh' (Kd.R_lt (mR_ HO259.out)) k_ hn_)), Or.elim hk_ (fun hs_ => Or.elim hs_ (fun hs_ => hs_.1.1.1.2.2.1) (fun hs_ => ((HO285.out).1 k_ hs_.symm).1.1.1.2)) (fun hn_ => (Kd.fresh' (Kd.R_lt (mR_ HO276.out)) k_ hn_)), Or.elim hk_ (fun hs_ => Or.elim hs_ (fun hs_ => hs_.1.1.2) (fun hs_ => ((HO285.out).1 k_ hs_.symm).1.1.2)) (fun hn_ => (Kd.fresh' (Kd.R_lt (mR_ HO279.out)) k_ hn_)), Or.elim hk_ (fun hs_ => Or.elim hs_ (fun hs_ => hs_.1.2) (fun hs_ => ((HO285.out).1 k_ hs_.symm).1.2)) (fun hn_ => (Kd.fresh' (Kd.R_lt (mR_ HO282.out)) k_ hn_)), Or.elim hk_ (fun hs_ => Or.elim hs_ (fun hs_ => hs_.1.1.1.2.2.2) (fun hs_ => ((HO285.out).1 k_ hs_.symm).2)) (fun hn_ => (Kd.freshB (g := gb264) (o := .cells #[.int .i64 t261, .int .i64 t262, .int .i64 t263] 43 (0, 0)) (mB_ BK264.out) k_ hn_))⟩)) (below_size (zs GE264.out)))
         have n11_ := aM (blk_below (g := gb264) (o := .cells #[.int .i64 t261, .int .i64 t262, .int .i64 t263] 43 (0, 0)) (mB_ BK264.out) hb)
         have n12_ := aM (below_step (zs GE264.out) hb)
         clear HO_3
         clear HO_5
         clear HL255_0
         clear HO259
         clear HL265_0
         clear HL270_0
         clear HO276
         clear HO279
         clear HO282
         clear HO285
         clear BK264
         clear HB
         have HO_3 := n0_
         have HO_5 := n1_
         have HL255_0 := n2_
         have HO259 := n3_
         have HL265_0 := n4_
         have HL270_0 := n5_
         have HO276 := n6_
         have HO279 := n7_
         have HO282 := n8_
         have HO285 := n9_
         have HO288 := n10_
         have BK264 := n11_
         have HB := n12_
         clear n0_ n1_ n2_ n3_ n4_ n5_ n6_ n7_ n8_ n9_ n10_ n11_ n12_
         (try clear hb)
         (try clear hb2)
         (try clear hk)
         (try clear hi)
         (try clear ho0)
         refine hK.out _ _ ⟨(blk_cell BK264.out 0).trans rfl, (blk_cell BK264.out 1).trans rfl, (blk_cell BK264.out 2).trans rfl, HS3_⟩ (fun hHeld => ?_)
         clear hK K
         refine norm_ (a' := ?_) ?_ ?_
         rotate_left
         ·show Act.put _ (some 69) _ = _
          simp only [Act.put, xA, xB, xC, i64_w, i32_w]
          rfl
         refine zp 13 (some 5) ?_ zA88 rfl rfl (Or.inl ⟨by rfl, ?_⟩) ?_ ?_ ?_
         rotate_left
         ·intro w'
          go_simp
          with_reducible rfl
         rotate_left
         ·simp only [Act.put, xA, xB, xC, i64_w, i32_w]
          rfl
         refine done_ (done_of HT_.out (by kernel_rfl)) ?_
         try go_wp2
         go_roundg k4
         case measure => have := HK1.out; have := HK2.out; have := HK3.out; have := HK4.out; omega
         case rel => exact ⟨(t286), (wrap64 (x8_4 + 1)), zr, H', ⟨by have := HK1.out; have := HK2.out; have := HK3.out; have := HK4.out; omega⟩, ⟨zd29 HO_3.out⟩, ⟨zd23 HO288.out⟩, ⟨zs GE264.out⟩⟩
end Go.Proofs.Ytlompfboheiliaa.F
end
section
namespace Go.Proofs.Ytlompfboheiliaa.F
open Go.RowKit Go.Proofs.YtlompfboheiliaaW.PrintWords Go.Proofs.YtlompfboheiliaaW.PrintLast Go.Proofs.YtlompfboheiliaaW.PrintMore
attribute [local go_sem] max2_int min2_int max_two min_two max_three min_three max_four min_four
set_option linter.unusedVariables false
set_option linter.unusedSimpArgs false
end Go.Proofs.Ytlompfboheiliaa.F
end
