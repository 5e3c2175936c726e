/- The row of FnSolids, with what it needs: text 10 of 13. -/
import Derived.Test.YtonldmalaajkgaaKSO8
set_option maxHeartbeats 8000000
set_option maxRecDepth 100000
section
namespace Go.Proofs.Ytonldmalaajkgaa.F
open Go.RowKit Go.Proofs.YtonldmalaajkgaaW.PrintWords Go.Proofs.YtonldmalaajkgaaW.PrintLast Go.Proofs.YtonldmalaajkgaaW.PrintMore
attribute [local go_sem] max2_int min2_int max_two min_two max_three min_three max_four min_four
set_option linter.unusedVariables false
set_option linter.unusedSimpArgs false
abbrev spec_l09Connected.a3 (l : List S63) (i : Int) : Value := .agg #[.int .i64 ((rd_T63 l i).f0), .int .i64 ((rd_T63 l i).f1), .int .i64 ((rd_T63 l i).f2)]
abbrev spec_l09Connected.c3 (w : World) (a : Addr) (i : Int) (l : List S63) (R : Prop) : Prop := w.cell? (a.add (i.toNat * 3)) = some (.int .i64 ((rd_T63 l i).f0)) ∧ w.cell? ⟨(a.add (i.toNat * 3)).block, (a.add (i.toNat * 3)).off + 1, none⟩ = some (.int .i64 ((rd_T63 l i).f1)) ∧ w.cell? ⟨(a.add (i.toNat * 3)).block, (a.add (i.toNat * 3)).off + 2, none⟩ = some (.int .i64 ((rd_T63 l i).f2)) ∧ R
abbrev spec_l09Connected.d3 (w : World) (a : Addr) (i : Int) (l : List S63) : Prop := w.cell? (a.add (i.toNat * 3)) = some (.int .i64 ((rd_T63 l i).f0)) ∧ w.cell? ⟨(a.add (i.toNat * 3)).block, (a.add (i.toNat * 3)).off + 1, none⟩ = some (.int .i64 ((rd_T63 l i).f1)) ∧ w.cell? ⟨(a.add (i.toNat * 3)).block, (a.add (i.toNat * 3)).off + 2, none⟩ = some (.int .i64 ((rd_T63 l i).f2))
theorem spec_l09Connected.calls (k : Nat) (A0 : Option Addr) (c0 : Nat) (l0 : List (S63)) (r : Bool) (w : World) (hr0 : Kd.C k63 w A0 l0.length l0) (hc0 : l0.length ≤ c0) (h : spec_l09Connected.f k l0 = some r) :
  Calls Try.prog 49 #[.slice A0 l0.length c0] w fun e w' => e = .returned (.bool r) ∧ Below w.heap.size w w' := by
 have hu63 := Try.underlying63
 have HR0 := aM hr0
 have HC0 := aM hc0
 clear hr0 hc0
 have HB := aM (Below.refl w.heap.size w)
 have H : (if 0 < (l0.length : Int) then (spec_l09Connected.l0 k l0 (([(⟨(rd_T63 l0 0).f0, (rd_T63 l0 0).f1, (rd_T63 l0 0).f2⟩ : S63)] : List (S63))) 0) else (none)) = some r := h
 clear h
 by_cases c2 : 0 < (l0.length : Int)
 rotate_left
 ·rw [if_neg c2] at H
  exact absurd H (by simp)
 rw [if_pos c2] at H
 have c2b0 : decide (0 < (l0.length : Int)) = true := decide_eq_true c2
 have c2b1 : decide (0 < l0.length) = true := decide_eq_true (by omega)
 clear c2
 obtain ⟨y650, hy650⟩ : ∃ y_ : List (S63), y_ = (([(⟨(rd_T63 l0 0).f0, (rd_T63 l0 0).f1, (rd_T63 l0 0).f2⟩ : S63)] : List (S63))) := ⟨_, rfl⟩
 replace H : (spec_l09Connected.l0 k l0 y650 0) = some r := zy H hy650
 have Ny650 := aM hy650
 clear hy650
 have H' := aM H
 clear H
 have p649 : 0 ≤ (0 : Int) := (by omega)
 have q649 : 0 < (l0.length : Int) := of_decide_eq_true za
 obtain ⟨ad649, e649, hx649_0, hx649_1, hx649_2⟩ := at_T63 HR0.out 0 p649 q649
 cases e649
 have qi649 : (0 < l0.length) = True := eq_true (by omega)
 (try rw [show ((0 : Int)).toNat = 0 from rfl] at hx649_0)
 (try rw [show 0 * 3 = 0 from rfl] at hx649_0)
 (try rw [Addr.add_zero'] at hx649_0)
 (try rw [show ((0 : Int)).toNat = 0 from rfl] at hx649_1)
 (try rw [show 0 * 3 = 0 from rfl] at hx649_1)
 (try rw [Addr.add_zero'] at hx649_1)
 (try rw [show ((0 : Int)).toNat = 0 from rfl] at hx649_2)
 (try rw [show 0 * 3 = 0 from rfl] at hx649_2)
 (try rw [Addr.add_zero'] at hx649_2)
 replace p649 := eq_true p649
 replace q649 := eq_true q649
 go_enter Try.func49, Try.ntmps49
 go_wp2_with (first | ((with_reducible refine gate_dst (N := 10) rfl ?_); refine Kd.R_lit k63 _ 63 ?hg (N := 10) ?hd (xs := ([(⟨(rd_T63 l0 0).f0, (rd_T63 l0 0).f1, (rd_T63 l0 0).f2⟩ : S63)] : List (S63))) (inner := [.int .i64 ((rd_T63 l0 0).f0), .int .i64 ((rd_T63 l0 0).f1), .int .i64 ((rd_T63 l0 0).f2)]) (ok := fun _ => True) (okp := fun _ => True) ?hr ?hp (fun _ hk => hk) trivial (Below.refl _ _) (Nat.le_refl _) (by simp) ?_; (case hd => rfl); (case hg => rfl); (case hr => first | (go_simp; done) | (go_simp; rfl)); (case hp => exact (Reps.c3 (show Kd.M k63 _ _ _ (⟨(rd_T63 l0 0).f0, (rd_T63 l0 0).f1, (rd_T63 l0 0).f2⟩ : S63) [.int .i64 ((rd_T63 l0 0).f0), .int .i64 ((rd_T63 l0 0).f1), .int .i64 ((rd_T63 l0 0).f2)] from (k63_mkM _ _ _ (⟨(rd_T63 l0 0).f0, (rd_T63 l0 0).f1, (rd_T63 l0 0).f2⟩ : S63) )) (Reps.none _ _))); intro v651 w3 ho4 hb hg_ hnew_; clear hg_ hnew_; (first | rw [← Ny650.out] at ho4 | (simp only [Int.reduceToNat] at ho4; rw [← Ny650.out] at ho4)); have n0_ := aM (Kd.R_lower ho4 (below_size zb)); have n1_ := aM (below_step zb hb); clear HB; have HO652 := n0_; have HB := n1_; clear n0_ n1_; clear hb ho4))
 go_loopg [3, 4] k (fun kq v3 v4 w' => ∃ (x3_1 : List (S63)) (x4_1 : Int), v4 = .int .i64 x4_1 ∧ Aside0 (spec_l09Connected.l0 kq l0 x3_1 x4_1 = some r) ∧ Aside0 (kq ≤ k) ∧ Aside0 (Kd.R k63 63 w' w.heap.size (fun _ => True) v3 x3_1) ∧ Aside0 (Below w.heap.size w w'))
 case atStart => exact ⟨(y650), (0), zr, H', ⟨Nat.le_refl _⟩, ⟨mR_ HO652.out⟩, ⟨zb⟩⟩
 case round =>
  clear H'
  try clear c2
  try clear c2b0
  try clear c2b1
  try clear p2
  try clear c3
  try clear c4
  try clear hx649_0
  try clear hx649_1
  try clear hx649_2
  try clear p649
  try clear q649
  obtain ⟨x3_1, x4_1, rfl, HA, HK1, HO_3, HB⟩ := hrel
  cases gk with
  | zero => exact absurd HA.out (by simp [spec_l09Connected.l0])
  | succ k1 =>
   have H := HA.out
   clear HA
   simp only [spec_l09Connected.l0] at H
   by_cases c5 : x4_1 < (x3_1.length : Int)
   rotate_left
   ·rw [if_neg c5] at H
    have c5b0 : decide (x4_1 < (x3_1.length : Int)) = false := decide_eq_false c5
    clear c5
    obtain rfl := Option.some.inj H
    obtain ⟨Ao61, co61, eo61⟩ := Kd.R_slice HO_3.out
    subst eo61
    go_wp2
    go_ret
    exact ⟨zw, zb⟩
   rw [if_pos c5] at H
   have c5b0 : decide (x4_1 < (x3_1.length : Int)) = true := decide_eq_true c5
   clear c5
   have H' := aM H
   clear H
   obtain ⟨Ao6, co6, eo6⟩ := Kd.R_slice HO_3.out
   subst eo6
   go_wp2
   go_loopg [3, 5] k1 (fun kq v3 v5 w' => ∃ (x3_2 : List (S63)) (x5_2 : Int), v5 = .int .i64 x5_2 ∧ Aside0 (spec_l09Connected.l1 kq l0 x3_2 x4_1 x5_2 = some r) ∧ Aside0 (kq ≤ k1) ∧ Aside0 (Kd.R k63 63 w' w.heap.size (fun _ => True) v3 x3_2) ∧ Aside0 (Below w.heap.size w w'))
   case atStart => exact ⟨(x3_1), (0), zr, H', ⟨Nat.le_refl _⟩, ⟨mR_ HO_3.out⟩, ⟨zb⟩⟩
   case round =>
    clear H'
    try clear c2
    try clear c2b0
    try clear c2b1
    try clear p2
    try clear c3
    try clear c4
    try clear c5
    try clear c5b0
    try clear p6
    try clear q6
    try clear hx6
    try clear qi6
    try clear hx649_0
    try clear hx649_1
    try clear hx649_2
    try clear p2
    try clear p649
    try clear q649
    obtain ⟨x3_2, x5_2, rfl, HA, HK2, HO_3, HB⟩ := hrel
    cases gk with
    | zero => exact absurd HA.out (by simp [spec_l09Connected.l1])
    | succ k2 =>
     have H := HA.out
     clear HA
     simp only [spec_l09Connected.l1] at H
     by_cases c7 : x5_2 < 6
     rotate_left
     ·rw [if_neg c7] at H
      have c7b0 : decide (x5_2 < 6) = false := decide_eq_false c7
      clear c7
      have H' := aM H
      clear H
      go_wp2
      go_roundg k2
      case measure => have := HK1.out; have := HK2.out; omega
      case rel => exact ⟨(x3_2), (wrap64 (x4_1 + 1)), zr, H', ⟨by have := HK1.out; have := HK2.out; omega⟩, ⟨mR_ HO_3.out⟩, ⟨zb⟩⟩
     rw [if_pos c7] at H
     have c7b0 : decide (x5_2 < 6) = true := decide_eq_true c7
     clear c7
     by_cases c8 : 0 ≤ x4_1
     rotate_left
     ·rw [if_neg c8] at H
      exact absurd H (by simp)
     rw [if_pos c8] at H
     have c8b0 : decide (0 ≤ x4_1) = true := decide_eq_true c8
     clear c8
     by_cases c9 : x4_1 < (x3_2.length : Int)
     rotate_left
     ·rw [if_neg c9] at H
      exact absurd H (by simp)
     rw [if_pos c9] at H
     have c9b0 : decide (x4_1 < (x3_2.length : Int)) = true := decide_eq_true c9
     clear c9
     replace H := Option.bind_eq_some_iff.mp H
     obtain ⟨t654, A100, H⟩ := H
     replace H : (if 0 ≤ x5_2 then (if x5_2 < (t654.length : Int) then ((spec_l09Add.f ((rd_T63 x3_2 x4_1).f0) ((rd_T63 x3_2 x4_1).f1) ((rd_T63 x3_2 x4_1).f2) ((rd_T63 t654 x5_2).f0) ((rd_T63 t654 x5_2).f1) ((rd_T63 t654 x5_2).f2)).bind fun bt658 => ((spec_l09Index.f k2 l0 bt658.1 bt658.2.1 bt658.2.2).bind fun t662 => (if t662 ≥ 0 then ((spec_l09Index.f k2 x3_2 bt658.1 bt658.2.1 bt658.2.2).bind fun t663 => (if t663 < 0 then (if x3_2.length < 5864062014805 then (spec_l09Connected.l1 k2 l0 (x3_2 ++ [(⟨bt658.1, bt658.2.1, bt658.2.2⟩ : S63)]) x4_1 (wrap64 (x5_2 + 1))) else (none)) else (spec_l09Connected.l1 k2 l0 x3_2 x4_1 (wrap64 (x5_2 + 1))))) else (spec_l09Connected.l1 k2 l0 x3_2 x4_1 (wrap64 (x5_2 + 1)))))) else (none)) else (none)) = some r := H
     have A10 := aM A100
     clear A100
     by_cases c11 : 0 ≤ x5_2
     rotate_left
     ·rw [if_neg c11] at H
      exact absurd H (by simp)
     rw [if_pos c11] at H
     have c11b0 : decide (0 ≤ x5_2) = true := decide_eq_true c11
     clear c11
     by_cases c12 : x5_2 < (t654.length : Int)
     rotate_left
     ·rw [if_neg c12] at H
      exact absurd H (by simp)
     rw [if_pos c12] at H
     have c12b0 : decide (x5_2 < (t654.length : Int)) = true := decide_eq_true c12
     clear c12
     replace H := Option.bind_eq_some_iff.mp H
     obtain ⟨⟨t658, t659, t660⟩, A130, H⟩ := H
     replace H : ((spec_l09Index.f k2 l0 t658 t659 t660).bind fun t662 => (if t662 ≥ 0 then ((spec_l09Index.f k2 x3_2 t658 t659 t660).bind fun t663 => (if t663 < 0 then (if x3_2.length < 5864062014805 then (spec_l09Connected.l1 k2 l0 (x3_2 ++ [(⟨t658, t659, t660⟩ : S63)]) x4_1 (wrap64 (x5_2 + 1))) else (none)) else (spec_l09Connected.l1 k2 l0 x3_2 x4_1 (wrap64 (x5_2 + 1))))) else (spec_l09Connected.l1 k2 l0 x3_2 x4_1 (wrap64 (x5_2 + 1))))) = some r := H
     have A13 := aM A130
     clear A130
     replace H := Option.bind_eq_some_iff.mp H
     obtain ⟨t662, A140, H⟩ := H
     replace H : (if t662 ≥ 0 then ((spec_l09Index.f k2 x3_2 t658 t659 t660).bind fun t663 => (if t663 < 0 then (if x3_2.length < 5864062014805 then (spec_l09Connected.l1 k2 l0 (x3_2 ++ [(⟨t658, t659, t660⟩ : S63)]) x4_1 (wrap64 (x5_2 + 1))) else (none)) else (spec_l09Connected.l1 k2 l0 x3_2 x4_1 (wrap64 (x5_2 + 1))))) else (spec_l09Connected.l1 k2 l0 x3_2 x4_1 (wrap64 (x5_2 + 1)))) = some r := H
     have A14 := aM A140
     clear A140
     by_cases c15 : t662 ≥ 0
     rotate_left
     ·rw [if_neg c15] at H
      have c15b0 : decide (0 ≤ t662) = false := decide_eq_false c15
      clear c15
      have H' := aM H
      clear H
      try go_wp2
      have n0_ := aM (Kd.R_drew HO_3.out)
      have n1_ := aM (below_drew1 HB.out)
      clear HO_3
      clear HB
      have HO_3 := n0_
      have HB := n1_
      clear n0_ n1_
      obtain ⟨Ao50, co50, eo50⟩ := Kd.R_slice HO_3.out
      (first | subst eo50 | (injection eo50 with f1_ f2_ f3_; have f4_ := f1_.symm; have f5_ := f3_.symm; clear f1_ f2_ f3_; subst f4_; subst f5_))
      have p653 : 0 ≤ (x4_1 : Int) := of_decide_eq_true za
      have q653 : x4_1 < (x3_2.length : Int) := of_decide_eq_true za
      obtain ⟨ad653, e653, hx653_0, hx653_1, hx653_2⟩ := at_T63 (Kd.R_reads' HO_3.out).2.2 x4_1 p653 q653
      cases e653
      replace p653 := eq_true p653
      replace q653 := eq_true q653
      refine start_ (n := 11) (S := fun w' => (spec_l09Connected.d3 w' ad653 x4_1 x3_2)) (ds := []) zA137 (by kernel_rfl) rfl rfl ⟨hx653_0, hx653_1, hx653_2⟩ (fun hHeld => ?_); refine with_tabW spec_l09Connected.tab8 spec_l09Connected.bits8 (fun HT_ HW_ => ?_)
      generalize wr.drew = w49 at HO_3 HB hx653_0 hx653_1 hx653_2 hHeld ⊢
      refine zp 0 (some 21) ?_ zA138 rfl rfl (Or.inl ⟨by rfl, ?_⟩) ?_ ?_ ?_
      rotate_left
      ·intro w'
       go_simp
       with_reducible rfl
      rotate_left
      ·simp only [Act.put, xA, xB, xC, i64_w, i32_w]
       rfl
      refine zp 1 (some 22) ?_ zA139 rfl rfl (Or.inl ⟨by rfl, ?_⟩) ?_ ?_ ?_
      rotate_left
      ·intro w'
       go_simp
       with_reducible rfl
      rotate_left
      ·simp only [Act.put, xA, xB, xC, i64_w, i32_w]
       rfl
      refine zp 2 (some 23) ?_ zA140 rfl rfl (Or.inl ⟨by rfl, ?_⟩) ?_ ?_ ?_
      rotate_left
      ·intro w'
       go_simp
       with_reducible rfl
      rotate_left
      ·simp only [Act.put, xA, xB, xC, i64_w, i32_w]
       rfl
      refine zp 5 (some 26) ?_ zA141 rfl rfl (Or.inl ⟨by rfl, ?_⟩) ?_ ?_ ?_
      rotate_left
      ·intro w'
       go_simp
       with_reducible rfl
      rotate_left
      ·simp only [Act.put, xA, xB, xC, i64_w, i32_w]
       rfl
      refine zu 3 (some 24) ?_ zA142 rfl rfl (Or.inl ⟨by rfl, ?_⟩) hHeld ?_ ?_ ?_
      rotate_left
      ·rintro w' ⟨s0, s1, s2⟩
       go_simp
       with_reducible rfl
      rotate_left
      ·simp only [Act.put, xA, xB, xC, i64_w, i32_w]
       rfl
      refine join9_ (σ := (Value × Nat) × Addr) (fun s_ w' => (spec_l09Connected.c3 w' ad653 x4_1 x3_2 ((spec_l09Connected.d3 w' (s_.2) x5_2 t654)))) 1 zA143 (fun s_ => [(25, s_.1.1), (29, .agg #[.int .i64 t658, .int .i64 t659, .int .i64 t660]), (6, .pointer (some ⟨s_.1.2, 0, none⟩)), (27, .pointer (some (s_.2.add ((x5_2).toNat * 3)))), (28, spec_l09Connected.a3 t654 x5_2)]) (fun s_ w' => ((spec_l09Connected.c3 w' ad653 x4_1 x3_2 ((spec_l09Connected.d3 w' (s_.2) x5_2 t654)))) ∧ (Kd.R k63 63 w' w.heap.size (fun k_ => some k_ ≠ (.slice (some ad653) x3_2.length co50 : Value).ownBlock ∧ k_ ≠ s_.1.2) s_.1.1 t654) ∧ (Kd.R k63 63 w' w.heap.size (fun k_ => some k_ ≠ (s_.1.1 : Value).ownBlock ∧ k_ ≠ s_.1.2) (.slice (some ad653) x3_2.length co50) x3_2) ∧ (w'.heap[s_.1.2]? = some (.cells #[.int .i64 0, .int .i64 0, .int .i64 0] 63 (0, 0))) ∧ (w.heap.size ≤ s_.1.2) ∧ (w.heap.size ≤ s_.1.2) ∧ (Below w.heap.size w w') ∧ (∃ c9_, s_.1.1 = Value.slice (some s_.2) t654.length c9_)) ?_ ?_
      rotate_left
      ·intro hCont
       refine two_ (i := 4) (j := 9) (Ni := some 25) (Nj := some 6) zA144 zA145 rfl rfl rfl rfl (two_of HT_.out (by kernel_rfl)) (by decide) (by decide) (fun K hK => ?_) (fun K hK => ?_)
       ·skip
        refine goes_ Try.func53 (by kernel_rfl) rfl #[] (by rfl) rfl rfl zm ?_
        with_reducible refine (spec_l09Steps.calls  t654 _ A10.out).mono ?_
        rintro e w51 ⟨v655, rfl, ho0, hb⟩
        have HS0_ := zk hb (hHeld.1)
        have HS1_ := zk hb (hHeld.2.1)
        have HS2_ := zk hb (hHeld.2.2)
        refine ⟨_, rfl, ?_⟩
        have n0_ := aM (Kd.R_elder' (mR_ HO_3.out) (Kd.R_base ho0) hb)
        have n1_ := aM (Kd.R_lower (Kd.R_new' ho0 (Kd.R_lt (mR_ HO_3.out))) (below_size zb))
        have n2_ := aM (below_step zb hb)
        clear HO_3
        clear HB
        have HO_3 := n0_
        have HO656 := n1_
        have HB := n2_
        clear n0_ n1_ n2_
        (try clear hb)
        (try clear hb2)
        (try clear hk)
        (try clear hi)
        (try clear ho0)
        obtain ⟨Ao52, co52, eo52⟩ := Kd.R_slice HO656.out
        (first | subst eo52 | (injection eo52 with f1_ f2_ f3_; have f4_ := f1_.symm; have f5_ := f3_.symm; clear f1_ f2_ f3_; subst f4_; subst f5_))
        have p657 : 0 ≤ (x5_2 : Int) := of_decide_eq_true za
        have q657 : x5_2 < (t654.length : Int) := of_decide_eq_true za
        obtain ⟨ad657, e657, hx657_0, hx657_1, hx657_2⟩ := at_T63 (Kd.R_reads' HO656.out).2.2 x5_2 p657 q657
        cases e657
        replace p657 := eq_true p657
        replace q657 := eq_true q657
        refine hK.out _ _ ⟨HS0_, HS1_, HS2_⟩ (fun hHeld => ?_)
        clear hK K
        refine more_ (S' := fun w' => (spec_l09Connected.c3 w' ad653 x4_1 x3_2 ((spec_l09Connected.d3 w' ad657 x5_2 t654)))) (fun _ h_ => ⟨h_.1, h_.2.1, h_.2.2.1⟩) ⟨hHeld.1, hHeld.2.1, hHeld.2.2, hx657_0, hx657_1, hx657_2⟩ (fun hHeld => ?_)
        refine norm_ (a' := ?_) ?_ ?_
        rotate_left
        ·show Act.put _ (some 25) _ = _
         simp only [Act.put, xA, xB, xC, i64_w, i32_w]
         rfl
        refine zp 6 (some 27) ?_ zA146 rfl rfl (Or.inl ⟨by rfl, ?_⟩) ?_ ?_ ?_
        rotate_left
        ·intro w'
         go_simp
         with_reducible rfl
        rotate_left
        ·simp only [Act.put, xA, xB, xC, i64_w, i32_w]
         rfl
        refine zu 7 (some 28) ?_ zA147 rfl rfl (Or.inl ⟨by rfl, ?_⟩) hHeld ?_ ?_ ?_
        rotate_left
        ·rintro w' ⟨s0, s1, s2, s3, s4, s5⟩
         go_simp
         with_reducible rfl
        rotate_left
        ·simp only [Act.put, xA, xB, xC, i64_w, i32_w]
         rfl
        refine two_ (i := 8) (j := 9) (Ni := some 29) (Nj := some 6) zA148 zA149 rfl rfl rfl rfl (two_of HT_.out (by kernel_rfl)) (by decide) (by decide) (fun K hK => ?_) (fun K hK => ?_)
        ·skip
         refine goes_ Try.func52 (by kernel_rfl) rfl #[spec_l09Connected.a3 x3_2 x4_1, spec_l09Connected.a3 t654 x5_2] (by rfl) rfl rfl zm ?_
         with_reducible refine (spec_l09Add.calls ((rd_T63 x3_2 x4_1).f0) ((rd_T63 x3_2 x4_1).f1) ((rd_T63 x3_2 x4_1).f2) ((rd_T63 t654 x5_2).f0) ((rd_T63 t654 x5_2).f1) ((rd_T63 t654 x5_2).f2) t658 t659 t660 _ A13.out).mono ?_
         rintro e w53 ⟨rfl, hb⟩
         have HS0_ := zk hb (hHeld.1)
         have HS1_ := zk hb (hHeld.2.1)
         have HS2_ := zk hb (hHeld.2.2.1)
         have HS3_ := zk hb (hHeld.2.2.2.1)
         have HS4_ := zk hb (hHeld.2.2.2.2.1)
         have HS5_ := zk hb (hHeld.2.2.2.2.2)
         refine ⟨_, rfl, ?_⟩
         have n0_ := aM (Kd.R_below (mR_ HO_3.out) hb)
         have n1_ := aM (Kd.R_below (mR_ HO656.out) hb)
         have n2_ := aM (below_step zb hb)
         clear HO_3
         clear HO656
         clear HB
         have HO_3 := n0_
         have HO656 := n1_
         have HB := n2_
         clear n0_ n1_ n2_
         (try clear hb)
         (try clear hb2)
         (try clear hk)
         (try clear hi)
         refine hK.out _ _ ⟨HS0_, HS1_, HS2_, HS3_, HS4_, HS5_⟩ (fun hHeld => ?_)
         clear hK K
         refine norm_ (a' := ?_) ?_ ?_
         rotate_left
         ·show Act.put _ (some 29) _ = _
          simp only [Act.put, xA, xB, xC, i64_w, i32_w]
          rfl
         refine one_ (i := 9) (N := some 6) zA143 rfl rfl (one_of HT_.out (by kernel_rfl)) (by decide) (fun K hK => ?_)
         refine box_step ?hg (N := 6) ?hd (cs := #[.int .i64 0, .int .i64 0, .int .i64 0]) (t := 63) ?hr ?_; (case hd => rfl); (case hg => rfl); (case hr => first | (go_simp; done) | (go_simp; rfl))
         intro gb661 hg w54 hbox hb
         have HS0_ := zk hb (hHeld.1)
         have HS1_ := zk hb (hHeld.2.1)
         have HS2_ := zk hb (hHeld.2.2.1)
         have HS3_ := zk hb (hHeld.2.2.2.1)
         have HS4_ := zk hb (hHeld.2.2.2.2.1)
         have HS5_ := zk hb (hHeld.2.2.2.2.2)
         have n0_ := aM (Kd.R_below (Kd.R_elderB (mR_ HO_3.out) gb661 (Nat.le_of_eq hg.symm)) hb)
         have n1_ := aM (Kd.R_below (Kd.R_elderB (mR_ HO656.out) gb661 (Nat.le_of_eq hg.symm)) hb)
         have n2_ := aM (below_step zb hb)
         have n3_ := aM (hbox)
         have n4_ := aM ((ze : w.heap.size ≤ gb661))
         have n5_ := aM ((ze : w.heap.size ≤ gb661))
         clear HO_3
         clear HO656
         clear HB
         have HO_3 := n0_
         have HO656 := n1_
         have HB := n2_
         have BK661 := n3_
         have GW661 := n4_
         have GE661 := n5_
         clear n0_ n1_ n2_ n3_ n4_ n5_
         clear hb hbox hg
         refine hK.out _ _ ⟨HS0_, HS1_, HS2_, HS3_, HS4_, HS5_⟩ (fun hHeld => ?_)
         clear hK K
         refine norm_ (a' := ?_) ?_ ?_
         rotate_left
         ·show Act.put _ (some 6) _ = _
          simp only [Act.put, xA, xB, xC, i64_w, i32_w]
          rfl
         exact norm_ (by simp only [putAll, Act.put, xA, xB, xC]) (hCont ((.slice (some ad657) t654.length co52, gb661), ad657) _ ⟨hHeld, (zd4 HO656.out), (zd4 HO_3.out), (mB_ BK661.out), GW661.out, GE661.out, (zs GE661.out), ⟨_, rfl⟩⟩)
        ·skip
         refine box_step ?hg (N := 6) ?hd (cs := #[.int .i64 0, .int .i64 0, .int .i64 0]) (t := 63) ?hr ?_; (case hd => rfl); (case hg => rfl); (case hr => first | (go_simp; done) | (go_simp; rfl))
         intro gb661 hg w53 hbox hb
         have HS0_ := zk hb (hHeld.1)
         have HS1_ := zk hb (hHeld.2.1)
         have HS2_ := zk hb (hHeld.2.2.1)
         have HS3_ := zk hb (hHeld.2.2.2.1)
         have HS4_ := zk hb (hHeld.2.2.2.2.1)
         have HS5_ := zk hb (hHeld.2.2.2.2.2)
         have n0_ := aM (Kd.R_below (Kd.R_elderB (mR_ HO_3.out) gb661 (Nat.le_of_eq hg.symm)) hb)
         have n1_ := aM (Kd.R_below (Kd.R_elderB (mR_ HO656.out) gb661 (Nat.le_of_eq hg.symm)) hb)
         have n2_ := aM (below_step zb hb)
         have n3_ := aM (hbox)
         have n4_ := aM ((ze : w.heap.size ≤ gb661))
         have n5_ := aM ((ze : w.heap.size ≤ gb661))
         clear HO_3
         clear HO656
         clear HB
         have HO_3 := n0_
         have HO656 := n1_
         have HB := n2_
         have BK661 := n3_
         have GW661 := n4_
         have GE661 := n5_
         clear n0_ n1_ n2_ n3_ n4_ n5_
         clear hb hbox hg
         refine hK.out _ _ ⟨HS0_, HS1_, HS2_, HS3_, HS4_, HS5_⟩ (fun hHeld => ?_)
         clear hK K
         refine norm_ (a' := ?_) ?_ ?_
         rotate_left
         ·show Act.put _ (some 6) _ = _
          simp only [Act.put, xA, xB, xC, i64_w, i32_w]
          rfl
         refine one_ (i := 8) (N := some 29) zA143 rfl rfl (one_of HT_.out (by kernel_rfl)) (by decide) (fun K hK => ?_)
         refine goes_ Try.func52 (by kernel_rfl) rfl #[spec_l09Connected.a3 x3_2 x4_1, spec_l09Connected.a3 t654 x5_2] (by rfl) rfl rfl zm ?_
         with_reducible refine (spec_l09Add.calls ((rd_T63 x3_2 x4_1).f0) ((rd_T63 x3_2 x4_1).f1) ((rd_T63 x3_2 x4_1).f2) ((rd_T63 t654 x5_2).f0) ((rd_T63 t654 x5_2).f1) ((rd_T63 t654 x5_2).f2) t658 t659 t660 _ A13.out).mono ?_
         rintro e w54 ⟨rfl, hb⟩
         have HS0_ := zk hb (hHeld.1)
         have HS1_ := zk hb (hHeld.2.1)
         have HS2_ := zk hb (hHeld.2.2.1)
         have HS3_ := zk hb (hHeld.2.2.2.1)
         have HS4_ := zk hb (hHeld.2.2.2.2.1)
         have HS5_ := zk hb (hHeld.2.2.2.2.2)
         refine ⟨_, rfl, ?_⟩
         have n0_ := aM (Kd.R_below (mR_ HO_3.out) hb)
         have n1_ := aM (Kd.R_below (mR_ HO656.out) hb)
         have n2_ := aM (blk_below (g := gb661) (o := .cells #[.int .i64 0, .int .i64 0, .int .i64 0] 63 (0, 0)) (mB_ BK661.out) hb)
         have n3_ := aM (below_step (zs GE661.out) hb)
         clear HO_3
         clear HO656
         clear BK661
         clear HB
         have HO_3 := n0_
         have HO656 := n1_
         have BK661 := n2_
         have HB := n3_
         clear n0_ n1_ n2_ n3_
         (try clear hb)
         (try clear hb2)
         (try clear hk)
         (try clear hi)
         refine hK.out _ _ ⟨HS0_, HS1_, HS2_, HS3_, HS4_, HS5_⟩ (fun hHeld => ?_)
         clear hK K
         refine norm_ (a' := ?_) ?_ ?_
         rotate_left
         ·show Act.put _ (some 29) _ = _
          simp only [Act.put, xA, xB, xC, i64_w, i32_w]
          rfl
         exact norm_ (by simp only [putAll, Act.put, xA, xB, xC]) (hCont ((.slice (some ad657) t654.length co52, gb661), ad657) _ ⟨hHeld, (zd4 HO656.out), (zd4 HO_3.out), (mB_ BK661.out), GW661.out, GE661.out, (zs GE661.out), ⟨_, rfl⟩⟩)
       ·skip
        refine box_step ?hg (N := 6) ?hd (cs := #[.int .i64 0, .int .i64 0, .int .i64 0]) (t := 63) ?hr ?_; (case hd => rfl); (case hg => rfl); (case hr => first | (go_simp; done) | (go_simp; rfl))
        intro gb661 hg w51 hbox hb
        have HS0_ := zk hb (hHeld.1)
        have HS1_ := zk hb (hHeld.2.1)
        have HS2_ := zk hb (hHeld.2.2)
        have n0_ := aM (Kd.R_below (Kd.R_elderB (mR_ HO_3.out) gb661 (Nat.le_of_eq hg.symm)) hb)
        have n1_ := aM (below_step zb hb)
        have n2_ := aM (hbox)
        have n3_ := aM ((ze : w.heap.size ≤ gb661))
        have n4_ := aM ((ze : w.heap.size ≤ gb661))
        clear HO_3
        clear HB
        have HO_3 := n0_
        have HB := n1_
        have BK661 := n2_
        have GW661 := n3_
        have GE661 := n4_
        clear n0_ n1_ n2_ n3_ n4_
        clear hb hbox hg
        refine hK.out _ _ ⟨HS0_, HS1_, HS2_⟩ (fun hHeld => ?_)
        clear hK K
        refine norm_ (a' := ?_) ?_ ?_
        rotate_left
        ·show Act.put _ (some 6) _ = _
         simp only [Act.put, xA, xB, xC, i64_w, i32_w]
         rfl
        refine one_ (i := 4) (N := some 25) zA150 rfl rfl (one_of HT_.out (by kernel_rfl)) (by decide) (fun K hK => ?_)
        refine goes_ Try.func53 (by kernel_rfl) rfl #[] (by rfl) rfl rfl zm ?_
        with_reducible refine (spec_l09Steps.calls  t654 _ A10.out).mono ?_
        rintro e w52 ⟨v655, rfl, ho0, hb⟩
        have HS0_ := zk hb (hHeld.1)
        have HS1_ := zk hb (hHeld.2.1)
        have HS2_ := zk hb (hHeld.2.2)
        refine ⟨_, rfl, ?_⟩
        have n0_ := aM (Kd.R_elder' (mR_ HO_3.out) (Kd.R_base ho0) hb)
        have n1_ := aM (Kd.R_lower (Kd.R_newB (Kd.R_new' ho0 (Kd.R_lt (mR_ HO_3.out))) (g := gb661) (o := .cells #[.int .i64 0, .int .i64 0, .int .i64 0] 63 (0, 0)) (mB_ BK661.out)) (below_size (zs GE661.out)))
        have n2_ := aM (blk_below (g := gb661) (o := .cells #[.int .i64 0, .int .i64 0, .int .i64 0] 63 (0, 0)) (mB_ BK661.out) hb)
        have n3_ := aM (below_step (zs GE661.out) hb)
        clear HO_3
        clear BK661
        clear HB
        have HO_3 := n0_
        have HO656 := n1_
        have BK661 := n2_
        have HB := n3_
        clear n0_ n1_ n2_ n3_
        (try clear hb)
        (try clear hb2)
        (try clear hk)
        (try clear hi)
        (try clear ho0)
        obtain ⟨Ao53, co53, eo53⟩ := Kd.R_slice HO656.out
        (first | subst eo53 | (injection eo53 with f1_ f2_ f3_; have f4_ := f1_.symm; have f5_ := f3_.symm; clear f1_ f2_ f3_; subst f4_; subst f5_))
        have p657 : 0 ≤ (x5_2 : Int) := of_decide_eq_true za
        have q657 : x5_2 < (t654.length : Int) := of_decide_eq_true za
        obtain ⟨ad657, e657, hx657_0, hx657_1, hx657_2⟩ := at_T63 (Kd.R_reads' HO656.out).2.2 x5_2 p657 q657
        cases e657
        replace p657 := eq_true p657
        replace q657 := eq_true q657
        refine hK.out _ _ ⟨HS0_, HS1_, HS2_⟩ (fun hHeld => ?_)
        clear hK K
        refine more_ (S' := fun w' => (spec_l09Connected.c3 w' ad653 x4_1 x3_2 ((spec_l09Connected.d3 w' ad657 x5_2 t654)))) (fun _ h_ => ⟨h_.1, h_.2.1, h_.2.2.1⟩) ⟨hHeld.1, hHeld.2.1, hHeld.2.2, hx657_0, hx657_1, hx657_2⟩ (fun hHeld => ?_)
        refine norm_ (a' := ?_) ?_ ?_
        rotate_left
        ·show Act.put _ (some 25) _ = _
         simp only [Act.put, xA, xB, xC, i64_w, i32_w]
         rfl
        refine zp 6 (some 27) ?_ zA151 rfl rfl (Or.inl ⟨by rfl, ?_⟩) ?_ ?_ ?_
        rotate_left
        ·intro w'
         go_simp
         with_reducible rfl
        rotate_left
        ·simp only [Act.put, xA, xB, xC, i64_w, i32_w]
         rfl
        refine zu 7 (some 28) ?_ zA149 rfl rfl (Or.inl ⟨by rfl, ?_⟩) hHeld ?_ ?_ ?_
        rotate_left
        ·rintro w' ⟨s0, s1, s2, s3, s4, s5⟩
         go_simp
         with_reducible rfl
        rotate_left
        ·simp only [Act.put, xA, xB, xC, i64_w, i32_w]
         rfl
        refine one_ (i := 8) (N := some 29) zA143 rfl rfl (one_of HT_.out (by kernel_rfl)) (by decide) (fun K hK => ?_)
        refine goes_ Try.func52 (by kernel_rfl) rfl #[spec_l09Connected.a3 x3_2 x4_1, spec_l09Connected.a3 t654 x5_2] (by rfl) rfl rfl zm ?_
        with_reducible refine (spec_l09Add.calls ((rd_T63 x3_2 x4_1).f0) ((rd_T63 x3_2 x4_1).f1) ((rd_T63 x3_2 x4_1).f2) ((rd_T63 t654 x5_2).f0) ((rd_T63 t654 x5_2).f1) ((rd_T63 t654 x5_2).f2) t658 t659 t660 _ A13.out).mono ?_
        rintro e w54 ⟨rfl, hb⟩
        have HS0_ := zk hb (hHeld.1)
        have HS1_ := zk hb (hHeld.2.1)
        have HS2_ := zk hb (hHeld.2.2.1)
        have HS3_ := zk hb (hHeld.2.2.2.1)
        have HS4_ := zk hb (hHeld.2.2.2.2.1)
        have HS5_ := zk hb (hHeld.2.2.2.2.2)
        refine ⟨_, rfl, ?_⟩
        have n0_ := aM (Kd.R_below (mR_ HO_3.out) hb)
        have n1_ := aM (Kd.R_below (mR_ HO656.out) hb)
        have n2_ := aM (blk_below (g := gb661) (o := .cells #[.int .i64 0, .int .i64 0, .int .i64 0] 63 (0, 0)) (mB_ BK661.out) hb)
        have n3_ := aM (below_step (zs GE661.out) hb)
        clear HO_3
        clear HO656
        clear BK661
        clear HB
        have HO_3 := n0_
        have HO656 := n1_
        have BK661 := n2_
        have HB := n3_
        clear n0_ n1_ n2_ n3_
        (try clear hb)
        (try clear hb2)
        (try clear hk)
        (try clear hi)
        refine hK.out _ _ ⟨HS0_, HS1_, HS2_, HS3_, HS4_, HS5_⟩ (fun hHeld => ?_)
        clear hK K
        refine norm_ (a' := ?_) ?_ ?_
        rotate_left
        ·show Act.put _ (some 29) _ = _
         simp only [Act.put, xA, xB, xC, i64_w, i32_w]
         rfl
        exact norm_ (by simp only [putAll, Act.put, xA, xB, xC]) (hCont ((.slice (some ad657) t654.length co53, gb661), ad657) _ ⟨hHeld, (zd4 HO656.out), (zd3 HO_3.out), (mB_ BK661.out), GW661.out, GE661.out, (zs GE661.out), ⟨_, rfl⟩⟩)
      rintro ⟨⟨v655, gb661⟩, ad657⟩ w55 ⟨hS_, h0_, h1_, h2_, h3_, h4_, h5_, ⟨c9_, hE9_⟩⟩
      replace hE9_ : v655 = Value.slice (some ad657) t654.length c9_ := hE9_
      subst hE9_
      have p657 : 0 ≤ (x5_2 : Int) := of_decide_eq_true za
      replace p657 := eq_true p657
      have q657 : x5_2 < (t654.length : Int) := of_decide_eq_true za
      replace q657 := eq_true q657
      refine more_ (S' := fun w' => (spec_l09Connected.c3 w' ad653 x4_1 x3_2 ((spec_l09Connected.d3 w' ad657 x5_2 t654)))) (fun _ h_ => h_) hS_ (fun hS_ => ?_)
      have n0_ : Aside0 (Kd.R k63 63 w55 w.heap.size (fun k_ => some k_ ≠ (.slice (some ad653) x3_2.length co50 : Value).ownBlock ∧ k_ ≠ gb661) (.slice (some ad657) t654.length c9_) t654) := ⟨h0_⟩
      have n1_ : Aside0 (Kd.R k63 63 w55 w.heap.size (fun k_ => some k_ ≠ ((.slice (some ad657) t654.length c9_) : Value).ownBlock ∧ k_ ≠ gb661) (.slice (some ad653) x3_2.length co50) x3_2) := ⟨h1_⟩
      have n2_ : Aside0 (w55.heap[gb661]? = some (.cells #[.int .i64 0, .int .i64 0, .int .i64 0] 63 (0, 0))) := ⟨h2_⟩
      have n3_ : Aside0 (w.heap.size ≤ gb661) := ⟨h3_⟩
      have n4_ : Aside0 (w.heap.size ≤ gb661) := ⟨h4_⟩
      have n5_ : Aside0 (Below w.heap.size w w55) := ⟨h5_⟩
      clear HO_3
      clear HB
      clear h0_ h1_ h2_ h3_ h4_ h5_
      have HO656 := n0_
      have HO_3 := n1_
      have BK661 := n2_
      have GW661 := n3_
      have GE661 := n4_
      have HB := n5_
      clear n0_ n1_ n2_ n3_ n4_ n5_
      have hHeld : (spec_l09Connected.c3 w55 ad653 x4_1 x3_2 ((spec_l09Connected.d3 w55 ad657 x5_2 t654))) := hS_
      refine norm_ (a' := ?_) ?_ ?_
      rotate_left
      ·simp only [putAll, Act.put, xA, xB, xC]
       rfl
      refine one_ (i := 10) (N := none) zA152 rfl rfl (one_of HT_.out (by kernel_rfl)) (by decide) (fun K hK => ?_)
      have hs56 : w55.cell? ⟨gb661, 0, none⟩ = some (.int .i64 0) := (blk_cell BK661.out 0).trans rfl
      have hfs56 := blk_frozen BK661.out 0
      have hs57 : w55.cell? ⟨gb661, 1, none⟩ = some (.int .i64 0) := (blk_cell BK661.out 1).trans rfl
      have hfs57 := blk_frozen BK661.out 1
      have hs58 : w55.cell? ⟨gb661, 2, none⟩ = some (.int .i64 0) := (blk_cell BK661.out 2).trans rfl
      have hfs58 := blk_frozen BK661.out 2
      refine skip_ (w1 := ?_) (by rfl) rfl ?_ ?_
      rotate_left
      ·go_simp
       rfl
      refine hK.out _ _ ⟨((cell_far (p := ⟨gb661, _, none⟩) (zd5 HO_3.out) _).trans (((cell_far (p := ⟨gb661, _, none⟩) (zd5 HO_3.out) _).trans (((cell_far (p := ⟨gb661, _, none⟩) (zd5 HO_3.out) _).trans (hHeld.1)))))), ((cell_far (p := ⟨gb661, _, none⟩) (zd5 HO_3.out) _).trans (((cell_far (p := ⟨gb661, _, none⟩) (zd5 HO_3.out) _).trans (((cell_far (p := ⟨gb661, _, none⟩) (zd5 HO_3.out) _).trans (hHeld.2.1)))))), ((cell_far (p := ⟨gb661, _, none⟩) (zd5 HO_3.out) _).trans (((cell_far (p := ⟨gb661, _, none⟩) (zd5 HO_3.out) _).trans (((cell_far (p := ⟨gb661, _, none⟩) (zd5 HO_3.out) _).trans (hHeld.2.2.1)))))), ((cell_far (p := ⟨gb661, _, none⟩) (zd5 HO656.out) _).trans (((cell_far (p := ⟨gb661, _, none⟩) (zd5 HO656.out) _).trans (((cell_far (p := ⟨gb661, _, none⟩) (zd5 HO656.out) _).trans (hHeld.2.2.2.1)))))), ((cell_far (p := ⟨gb661, _, none⟩) (zd5 HO656.out) _).trans (((cell_far (p := ⟨gb661, _, none⟩) (zd5 HO656.out) _).trans (((cell_far (p := ⟨gb661, _, none⟩) (zd5 HO656.out) _).trans (hHeld.2.2.2.2.1)))))), ((cell_far (p := ⟨gb661, _, none⟩) (zd5 HO656.out) _).trans (((cell_far (p := ⟨gb661, _, none⟩) (zd5 HO656.out) _).trans (((cell_far (p := ⟨gb661, _, none⟩) (zd5 HO656.out) _).trans (hHeld.2.2.2.2.2))))))⟩ (fun hHeld => ?_)
      clear hK K
      refine done_ (done_of HT_.out (by kernel_rfl)) ?_
      have hcz59_0 : w55.cell? ⟨gb661, 0, none⟩ = some (.int .i64 0) := (blk_cell BK661.out 0).trans rfl
      have hcz59_1 : w55.cell? ⟨gb661, 1, none⟩ = some (.int .i64 0) := (blk_cell BK661.out 1).trans rfl
      have hcz59_2 : w55.cell? ⟨gb661, 2, none⟩ = some (.int .i64 0) := (blk_cell BK661.out 2).trans rfl
      have hfz59_0 := blk_frozen BK661.out 0
      have hfz59_1 := blk_frozen BK661.out 1
      have hfz59_2 := blk_frozen BK661.out 2
      try go_wp2_with (first | ((with_reducible refine gate_callee (f := 54) rfl ?_); refine goesL_ (some 32) rfl rfl Try.func54 (by kernel_rfl) rfl #[.slice (some ad649) l0.length c0, .agg #[.int .i64 t658, .int .i64 t659, .int .i64 t660]] rfl zm ?_; (with_reducible refine (spec_l09Index.calls k2 _ _ l0 t658 t659 t660 t662 _ ?side1 ?side2 A14.out).mono ?_); (case side1 => exact Kd.C_below HR0.out (zs GE661.out)); (case side2 => exact HC0.out); rintro e w60 ⟨rfl, hb⟩; refine ⟨_, rfl, ?_⟩; have n0_ := aM (Kd.R_below (by (with_reducible repeat (first | apply Kd.R_alloc | apply Kd.R_drewN | apply Kd.R_drew)); exact (Kd.R_mono (Kd.R_far (p := ⟨gb661, 2, none⟩) (Kd.R_far (p := ⟨gb661, 1, none⟩) (Kd.R_far (p := ⟨gb661, 0, none⟩) (Kd.R_mono HO_3.out (fun k_ hk => (⟨hk, hk.2⟩ : _ ∧ k_ ≠ gb661))) (fun _ hk => hk.2) (.int .i64 t658)) (fun _ hk => hk.2) (.int .i64 t659)) (fun _ hk => hk.2) (.int .i64 t660)) (fun _ h_ => h_.1))) hb); have n1_ := aM (Kd.R_below (by (with_reducible repeat (first | apply Kd.R_alloc | apply Kd.R_drewN | apply Kd.R_drew)); exact (Kd.R_mono (Kd.R_far (p := ⟨gb661, 2, none⟩) (Kd.R_far (p := ⟨gb661, 1, none⟩) (Kd.R_far (p := ⟨gb661, 0, none⟩) (Kd.R_mono HO656.out (fun k_ hk => (⟨hk, hk.2⟩ : _ ∧ k_ ≠ gb661))) (fun _ hk => hk.2) (.int .i64 t658)) (fun _ hk => hk.2) (.int .i64 t659)) (fun _ hk => hk.2) (.int .i64 t660)) (fun _ h_ => h_.1))) hb); have n2_ := aM (blk_below (g := gb661) (o := .cells #[.int .i64 t658, .int .i64 t659, .int .i64 t660] 63 (0, 0)) (by (with_reducible repeat (first | refine blk_drewN ?_ _ | refine blk_drew ?_ | refine blk_alloc ?_ _)); refine blk_put (cs := #[.int .i64 t658, .int .i64 t659, .int .i64 0]) ?_ 2 _ rfl; (with_reducible repeat (first | refine blk_drewN ?_ _ | refine blk_drew ?_ | refine blk_alloc ?_ _)); refine blk_put (cs := #[.int .i64 t658, .int .i64 0, .int .i64 0]) ?_ 1 _ rfl; (with_reducible repeat (first | refine blk_drewN ?_ _ | refine blk_drew ?_ | refine blk_alloc ?_ _)); refine blk_put (cs := #[.int .i64 0, .int .i64 0, .int .i64 0]) ?_ 0 _ rfl; (with_reducible repeat (first | refine blk_drewN ?_ _ | refine blk_drew ?_ | refine blk_alloc ?_ _)); exact BK661.out) hb); have n3_ := aM (below_step (zs GE661.out) hb); clear HO_3 HO656 BK661 HB; have HO_3 := n0_; have HO656 := n1_; have BK661 := n2_; have HB := n3_; clear n0_ n1_ n2_ n3_; (try clear hb); (try clear hb2); (try clear hk); (try clear hi)))
      go_roundg k2
      case measure => have := HK1.out; have := HK2.out; omega
      case rel => exact ⟨(x3_2), (wrap64 (x5_2 + 1)), zr, H', ⟨by have := HK1.out; have := HK2.out; omega⟩, ⟨zd1 HO_3.out⟩, ⟨zs GE661.out⟩⟩
     rw [if_pos c15] at H
     have c15b0 : decide (0 ≤ t662) = true := decide_eq_true c15
     clear c15
     replace H := Option.bind_eq_some_iff.mp H
     obtain ⟨t663, A160, H⟩ := H
     replace H : (if t663 < 0 then (if x3_2.length < 5864062014805 then (spec_l09Connected.l1 k2 l0 (x3_2 ++ [(⟨t658, t659, t660⟩ : S63)]) x4_1 (wrap64 (x5_2 + 1))) else (none)) else (spec_l09Connected.l1 k2 l0 x3_2 x4_1 (wrap64 (x5_2 + 1)))) = some r := H
     have A16 := aM A160
     clear A160
     by_cases c17 : t663 < 0
     rotate_left
     ·rw [if_neg c17] at H
      have c17b0 : decide (t663 < 0) = false := decide_eq_false c17
      clear c17
      have H' := aM H
      clear H
      try go_wp2
      have n0_ := aM (Kd.R_drew HO_3.out)
      have n1_ := aM (below_drew1 HB.out)
      clear HO_3
      clear HB
      have HO_3 := n0_
      have HB := n1_
      clear n0_ n1_
      obtain ⟨Ao36, co36, eo36⟩ := Kd.R_slice HO_3.out
      (first | subst eo36 | (injection eo36 with f1_ f2_ f3_; have f4_ := f1_.symm; have f5_ := f3_.symm; clear f1_ f2_ f3_; subst f4_; subst f5_))
      have p653 : 0 ≤ (x4_1 : Int) := of_decide_eq_true za
      have q653 : x4_1 < (x3_2.length : Int) := of_decide_eq_true za
      obtain ⟨ad653, e653, hx653_0, hx653_1, hx653_2⟩ := at_T63 (Kd.R_reads' HO_3.out).2.2 x4_1 p653 q653
      cases e653
      replace p653 := eq_true p653
      replace q653 := eq_true q653
      refine start_ (n := 11) (S := fun w' => (spec_l09Connected.d3 w' ad653 x4_1 x3_2)) (ds := []) zA137 (by kernel_rfl) rfl rfl ⟨hx653_0, hx653_1, hx653_2⟩ (fun hHeld => ?_); refine with_tabW spec_l09Connected.tab8 spec_l09Connected.bits8 (fun HT_ HW_ => ?_)
      generalize wr.drew = w35 at HO_3 HB hx653_0 hx653_1 hx653_2 hHeld ⊢
      refine zp 0 (some 21) ?_ zA138 rfl rfl (Or.inl ⟨by rfl, ?_⟩) ?_ ?_ ?_
      rotate_left
      ·intro w'
       go_simp
       with_reducible rfl
      rotate_left
      ·simp only [Act.put, xA, xB, xC, i64_w, i32_w]
       rfl
      refine zp 1 (some 22) ?_ zA139 rfl rfl (Or.inl ⟨by rfl, ?_⟩) ?_ ?_ ?_
      rotate_left
      ·intro w'
       go_simp
       with_reducible rfl
      rotate_left
      ·simp only [Act.put, xA, xB, xC, i64_w, i32_w]
       rfl
      refine zp 2 (some 23) ?_ zA140 rfl rfl (Or.inl ⟨by rfl, ?_⟩) ?_ ?_ ?_
      rotate_left
      ·intro w'
       go_simp
       with_reducible rfl
      rotate_left
      ·simp only [Act.put, xA, xB, xC, i64_w, i32_w]
       rfl
      refine zp 5 (some 26) ?_ zA141 rfl rfl (Or.inl ⟨by rfl, ?_⟩) ?_ ?_ ?_
      rotate_left
      ·intro w'
       go_simp
       with_reducible rfl
      rotate_left
      ·simp only [Act.put, xA, xB, xC, i64_w, i32_w]
       rfl
      refine zu 3 (some 24) ?_ zA142 rfl rfl (Or.inl ⟨by rfl, ?_⟩) hHeld ?_ ?_ ?_
      rotate_left
      ·rintro w' ⟨s0, s1, s2⟩
       go_simp
       with_reducible rfl
      rotate_left
      ·simp only [Act.put, xA, xB, xC, i64_w, i32_w]
       rfl
      refine join9_ (σ := (Value × Nat) × Addr) (fun s_ w' => (spec_l09Connected.c3 w' ad653 x4_1 x3_2 ((spec_l09Connected.d3 w' (s_.2) x5_2 t654)))) 1 zA143 (fun s_ => [(25, s_.1.1), (29, .agg #[.int .i64 t658, .int .i64 t659, .int .i64 t660]), (6, .pointer (some ⟨s_.1.2, 0, none⟩)), (27, .pointer (some (s_.2.add ((x5_2).toNat * 3)))), (28, spec_l09Connected.a3 t654 x5_2)]) (fun s_ w' => ((spec_l09Connected.c3 w' ad653 x4_1 x3_2 ((spec_l09Connected.d3 w' (s_.2) x5_2 t654)))) ∧ (Kd.R k63 63 w' w.heap.size (fun k_ => some k_ ≠ (.slice (some ad653) x3_2.length co36 : Value).ownBlock ∧ k_ ≠ s_.1.2) s_.1.1 t654) ∧ (Kd.R k63 63 w' w.heap.size (fun k_ => some k_ ≠ (s_.1.1 : Value).ownBlock ∧ k_ ≠ s_.1.2) (.slice (some ad653) x3_2.length co36) x3_2) ∧ (w'.heap[s_.1.2]? = some (.cells #[.int .i64 0, .int .i64 0, .int .i64 0] 63 (0, 0))) ∧ (w.heap.size ≤ s_.1.2) ∧ (w.heap.size ≤ s_.1.2) ∧ (Below w.heap.size w w') ∧ (∃ c9_, s_.1.1 = Value.slice (some s_.2) t654.length c9_)) ?_ ?_
      rotate_left
      ·intro hCont
       refine two_ (i := 4) (j := 9) (Ni := some 25) (Nj := some 6) zA144 zA145 rfl rfl rfl rfl (two_of HT_.out (by kernel_rfl)) (by decide) (by decide) (fun K hK => ?_) (fun K hK => ?_)
       ·skip
        refine goes_ Try.func53 (by kernel_rfl) rfl #[] (by rfl) rfl rfl zm ?_
        with_reducible refine (spec_l09Steps.calls  t654 _ A10.out).mono ?_
        rintro e w37 ⟨v655, rfl, ho0, hb⟩
        have HS0_ := zk hb (hHeld.1)
        have HS1_ := zk hb (hHeld.2.1)
        have HS2_ := zk hb (hHeld.2.2)
        refine ⟨_, rfl, ?_⟩
        have n0_ := aM (Kd.R_elder' (mR_ HO_3.out) (Kd.R_base ho0) hb)
        have n1_ := aM (Kd.R_lower (Kd.R_new' ho0 (Kd.R_lt (mR_ HO_3.out))) (below_size zb))
        have n2_ := aM (below_step zb hb)
        clear HO_3
        clear HB
        have HO_3 := n0_
        have HO656 := n1_
        have HB := n2_
        clear n0_ n1_ n2_
        (try clear hb)
        (try clear hb2)
        (try clear hk)
        (try clear hi)
        (try clear ho0)
        obtain ⟨Ao38, co38, eo38⟩ := Kd.R_slice HO656.out
        (first | subst eo38 | (injection eo38 with f1_ f2_ f3_; have f4_ := f1_.symm; have f5_ := f3_.symm; clear f1_ f2_ f3_; subst f4_; subst f5_))
        have p657 : 0 ≤ (x5_2 : Int) := of_decide_eq_true za
        have q657 : x5_2 < (t654.length : Int) := of_decide_eq_true za
        obtain ⟨ad657, e657, hx657_0, hx657_1, hx657_2⟩ := at_T63 (Kd.R_reads' HO656.out).2.2 x5_2 p657 q657
        cases e657
        replace p657 := eq_true p657
        replace q657 := eq_true q657
        refine hK.out _ _ ⟨HS0_, HS1_, HS2_⟩ (fun hHeld => ?_)
        clear hK K
        refine more_ (S' := fun w' => (spec_l09Connected.c3 w' ad653 x4_1 x3_2 ((spec_l09Connected.d3 w' ad657 x5_2 t654)))) (fun _ h_ => ⟨h_.1, h_.2.1, h_.2.2.1⟩) ⟨hHeld.1, hHeld.2.1, hHeld.2.2, hx657_0, hx657_1, hx657_2⟩ (fun hHeld => ?_)
        refine norm_ (a' := ?_) ?_ ?_
        rotate_left
        ·show Act.put _ (some 25) _ = _
         simp only [Act.put, xA, xB, xC, i64_w, i32_w]
         rfl
        refine zp 6 (some 27) ?_ zA146 rfl rfl (Or.inl ⟨by rfl, ?_⟩) ?_ ?_ ?_
        rotate_left
        ·intro w'
         go_simp
         with_reducible rfl
        rotate_left
        ·simp only [Act.put, xA, xB, xC, i64_w, i32_w]
         rfl
        refine zu 7 (some 28) ?_ zA147 rfl rfl (Or.inl ⟨by rfl, ?_⟩) hHeld ?_ ?_ ?_
        rotate_left
        ·rintro w' ⟨s0, s1, s2, s3, s4, s5⟩
         go_simp
         with_reducible rfl
        rotate_left
        ·simp only [Act.put, xA, xB, xC, i64_w, i32_w]
         rfl
        refine two_ (i := 8) (j := 9) (Ni := some 29) (Nj := some 6) zA148 zA149 rfl rfl rfl rfl (two_of HT_.out (by kernel_rfl)) (by decide) (by decide) (fun K hK => ?_) (fun K hK => ?_)
        ·skip
         refine goes_ Try.func52 (by kernel_rfl) rfl #[spec_l09Connected.a3 x3_2 x4_1, spec_l09Connected.a3 t654 x5_2] (by rfl) rfl rfl zm ?_
         with_reducible refine (spec_l09Add.calls ((rd_T63 x3_2 x4_1).f0) ((rd_T63 x3_2 x4_1).f1) ((rd_T63 x3_2 x4_1).f2) ((rd_T63 t654 x5_2).f0) ((rd_T63 t654 x5_2).f1) ((rd_T63 t654 x5_2).f2) t658 t659 t660 _ A13.out).mono ?_
         rintro e w39 ⟨rfl, hb⟩
         have HS0_ := zk hb (hHeld.1)
         have HS1_ := zk hb (hHeld.2.1)
         have HS2_ := zk hb (hHeld.2.2.1)
         have HS3_ := zk hb (hHeld.2.2.2.1)
         have HS4_ := zk hb (hHeld.2.2.2.2.1)
         have HS5_ := zk hb (hHeld.2.2.2.2.2)
         refine ⟨_, rfl, ?_⟩
         have n0_ := aM (Kd.R_below (mR_ HO_3.out) hb)
         have n1_ := aM (Kd.R_below (mR_ HO656.out) hb)
         have n2_ := aM (below_step zb hb)
         clear HO_3
         clear HO656
         clear HB
         have HO_3 := n0_
         have HO656 := n1_
         have HB := n2_
         clear n0_ n1_ n2_
         (try clear hb)
         (try clear hb2)
         (try clear hk)
         (try clear hi)
         refine hK.out _ _ ⟨HS0_, HS1_, HS2_, HS3_, HS4_, HS5_⟩ (fun hHeld => ?_)
         clear hK K
         refine norm_ (a' := ?_) ?_ ?_
         rotate_left
         ·show Act.put _ (some 29) _ = _
          simp only [Act.put, xA, xB, xC, i64_w, i32_w]
          rfl
         refine one_ (i := 9) (N := some 6) zA143 rfl rfl (one_of HT_.out (by kernel_rfl)) (by decide) (fun K hK => ?_)
         refine box_step ?hg (N := 6) ?hd (cs := #[.int .i64 0, .int .i64 0, .int .i64 0]) (t := 63) ?hr ?_; (case hd => rfl); (case hg => rfl); (case hr => first | (go_simp; done) | (go_simp; rfl))
         intro gb661 hg w40 hbox hb
         have HS0_ := zk hb (hHeld.1)
         have HS1_ := zk hb (hHeld.2.1)
         have HS2_ := zk hb (hHeld.2.2.1)
         have HS3_ := zk hb (hHeld.2.2.2.1)
         have HS4_ := zk hb (hHeld.2.2.2.2.1)
         have HS5_ := zk hb (hHeld.2.2.2.2.2)
         have n0_ := aM (Kd.R_below (Kd.R_elderB (mR_ HO_3.out) gb661 (Nat.le_of_eq hg.symm)) hb)
         have n1_ := aM (Kd.R_below (Kd.R_elderB (mR_ HO656.out) gb661 (Nat.le_of_eq hg.symm)) hb)
         have n2_ := aM (below_step zb hb)
         have n3_ := aM (hbox)
         have n4_ := aM ((ze : w.heap.size ≤ gb661))
         have n5_ := aM ((ze : w.heap.size ≤ gb661))
         clear HO_3
         clear HO656
         clear HB
         have HO_3 := n0_
         have HO656 := n1_
         have HB := n2_
         have BK661 := n3_
         have GW661 := n4_
         have GE661 := n5_
         clear n0_ n1_ n2_ n3_ n4_ n5_
         clear hb hbox hg
         refine hK.out _ _ ⟨HS0_, HS1_, HS2_, HS3_, HS4_, HS5_⟩ (fun hHeld => ?_)
         clear hK K
         refine norm_ (a' := ?_) ?_ ?_
         rotate_left
         ·show Act.put _ (some 6) _ = _
          simp only [Act.put, xA, xB, xC, i64_w, i32_w]
          rfl
         exact norm_ (by simp only [putAll, Act.put, xA, xB, xC]) (hCont ((.slice (some ad657) t654.length co38, gb661), ad657) _ ⟨hHeld, (zd4 HO656.out), (zd4 HO_3.out), (mB_ BK661.out), GW661.out, GE661.out, (zs GE661.out), ⟨_, rfl⟩⟩)
        ·skip
         refine box_step ?hg (N := 6) ?hd (cs := #[.int .i64 0, .int .i64 0, .int .i64 0]) (t := 63) ?hr ?_; (case hd => rfl); (case hg => rfl); (case hr => first | (go_simp; done) | (go_simp; rfl))
         intro gb661 hg w39 hbox hb
         have HS0_ := zk hb (hHeld.1)
         have HS1_ := zk hb (hHeld.2.1)
         have HS2_ := zk hb (hHeld.2.2.1)
         have HS3_ := zk hb (hHeld.2.2.2.1)
         have HS4_ := zk hb (hHeld.2.2.2.2.1)
         have HS5_ := zk hb (hHeld.2.2.2.2.2)
         have n0_ := aM (Kd.R_below (Kd.R_elderB (mR_ HO_3.out) gb661 (Nat.le_of_eq hg.symm)) hb)
         have n1_ := aM (Kd.R_below (Kd.R_elderB (mR_ HO656.out) gb661 (Nat.le_of_eq hg.symm)) hb)
         have n2_ := aM (below_step zb hb)
         have n3_ := aM (hbox)
         have n4_ := aM ((ze : w.heap.size ≤ gb661))
         have n5_ := aM ((ze : w.heap.size ≤ gb661))
         clear HO_3
         clear HO656
         clear HB
         have HO_3 := n0_
         have HO656 := n1_
         have HB := n2_
         have BK661 := n3_
         have GW661 := n4_
         have GE661 := n5_
         clear n0_ n1_ n2_ n3_ n4_ n5_
         clear hb hbox hg
         refine hK.out _ _ ⟨HS0_, HS1_, HS2_, HS3_, HS4_, HS5_⟩ (fun hHeld => ?_)
         clear hK K
         refine norm_ (a' := ?_) ?_ ?_
         rotate_left
         ·show Act.put _ (some 6) _ = _
          simp only [Act.put, xA, xB, xC, i64_w, i32_w]
          rfl
         refine one_ (i := 8) (N := some 29) zA143 rfl rfl (one_of HT_.out (by kernel_rfl)) (by decide) (fun K hK => ?_)
         refine goes_ Try.func52 (by kernel_rfl) rfl #[spec_l09Connected.a3 x3_2 x4_1, spec_l09Connected.a3 t654 x5_2] (by rfl) rfl rfl zm ?_
         with_reducible refine (spec_l09Add.calls ((rd_T63 x3_2 x4_1).f0) ((rd_T63 x3_2 x4_1).f1) ((rd_T63 x3_2 x4_1).f2) ((rd_T63 t654 x5_2).f0) ((rd_T63 t654 x5_2).f1) ((rd_T63 t654 x5_2).f2) t658 t659 t660 _ A13.out).mono ?_
         rintro e w40 ⟨rfl, hb⟩
         have HS0_ := zk hb (hHeld.1)
         have HS1_ := zk hb (hHeld.2.1)
         have HS2_ := zk hb (hHeld.2.2.1)
         have HS3_ := zk hb (hHeld.2.2.2.1)
         have HS4_ := zk hb (hHeld.2.2.2.2.1)
         have HS5_ := zk hb (hHeld.2.2.2.2.2)
         refine ⟨_, rfl, ?_⟩
         have n0_ := aM (Kd.R_below (mR_ HO_3.out) hb)
         have n1_ := aM (Kd.R_below (mR_ HO656.out) hb)
         have n2_ := aM (blk_below (g := gb661) (o := .cells #[.int .i64 0, .int .i64 0, .int .i64 0] 63 (0, 0)) (mB_ BK661.out) hb)
         have n3_ := aM (below_step (zs GE661.out) hb)
         clear HO_3
         clear HO656
         clear BK661
         clear HB
         have HO_3 := n0_
         have HO656 := n1_
         have BK661 := n2_
         have HB := n3_
         clear n0_ n1_ n2_ n3_
         (try clear hb)
         (try clear hb2)
         (try clear hk)
         (try clear hi)
         refine hK.out _ _ ⟨HS0_, HS1_, HS2_, HS3_, HS4_, HS5_⟩ (fun hHeld => ?_)
         clear hK K
         refine norm_ (a' := ?_) ?_ ?_
         rotate_left
         ·show Act.put _ (some 29) _ = _
          simp only [Act.put, xA, xB, xC, i64_w, i32_w]
          rfl
         exact norm_ (by simp only [putAll, Act.put, xA, xB, xC]) (hCont ((.slice (some ad657) t654.length co38, gb661), ad657) _ ⟨hHeld, (zd4 HO656.out), (zd4 HO_3.out), (mB_ BK661.out), GW661.out, GE661.out, (zs GE661.out), ⟨_, rfl⟩⟩)
       ·skip
        refine box_step ?hg (N := 6) ?hd (cs := #[.int .i64 0, .int .i64 0, .int .i64 0]) (t := 63) ?hr ?_; (case hd => rfl); (case hg => rfl); (case hr => first | (go_simp; done) | (go_simp; rfl))
        intro gb661 hg w37 hbox hb
        have HS0_ := zk hb (hHeld.1)
        have HS1_ := zk hb (hHeld.2.1)
        have HS2_ := zk hb (hHeld.2.2)
        have n0_ := aM (Kd.R_below (Kd.R_elderB (mR_ HO_3.out) gb661 (Nat.le_of_eq hg.symm)) hb)
        have n1_ := aM (below_step zb hb)
        have n2_ := aM (hbox)
        have n3_ := aM ((ze : w.heap.size ≤ gb661))
        have n4_ := aM ((ze : w.heap.size ≤ gb661))
        clear HO_3
        clear HB
        have HO_3 := n0_
        have HB := n1_
        have BK661 := n2_
        have GW661 := n3_
        have GE661 := n4_
        clear n0_ n1_ n2_ n3_ n4_
        clear hb hbox hg
        refine hK.out _ _ ⟨HS0_, HS1_, HS2_⟩ (fun hHeld => ?_)
        clear hK K
        refine norm_ (a' := ?_) ?_ ?_
        rotate_left
        ·show Act.put _ (some 6) _ = _
         simp only [Act.put, xA, xB, xC, i64_w, i32_w]
         rfl
        refine one_ (i := 4) (N := some 25) zA150 rfl rfl (one_of HT_.out (by kernel_rfl)) (by decide) (fun K hK => ?_)
        refine goes_ Try.func53 (by kernel_rfl) rfl #[] (by rfl) rfl rfl zm ?_
        with_reducible refine (spec_l09Steps.calls  t654 _ A10.out).mono ?_
        rintro e w38 ⟨v655, rfl, ho0, hb⟩
        have HS0_ := zk hb (hHeld.1)
        have HS1_ := zk hb (hHeld.2.1)
        have HS2_ := zk hb (hHeld.2.2)
        refine ⟨_, rfl, ?_⟩
        have n0_ := aM (Kd.R_elder' (mR_ HO_3.out) (Kd.R_base ho0) hb)
        have n1_ := aM (Kd.R_lower (Kd.R_newB (Kd.R_new' ho0 (Kd.R_lt (mR_ HO_3.out))) (g := gb661) (o := .cells #[.int .i64 0, .int .i64 0, .int .i64 0] 63 (0, 0)) (mB_ BK661.out)) (below_size (zs GE661.out)))
        have n2_ := aM (blk_below (g := gb661) (o := .cells #[.int .i64 0, .int .i64 0, .int .i64 0] 63 (0, 0)) (mB_ BK661.out) hb)
        have n3_ := aM (below_step (zs GE661.out) hb)
        clear HO_3
        clear BK661
        clear HB
        have HO_3 := n0_
        have HO656 := n1_
        have BK661 := n2_
        have HB := n3_
        clear n0_ n1_ n2_ n3_
        (try clear hb)
        (try clear hb2)
        (try clear hk)
        (try clear hi)
        (try clear ho0)
        obtain ⟨Ao39, co39, eo39⟩ := Kd.R_slice HO656.out
        (first | subst eo39 | (injection eo39 with f1_ f2_ f3_; have f4_ := f1_.symm; have f5_ := f3_.symm; clear f1_ f2_ f3_; subst f4_; subst f5_))
        have p657 : 0 ≤ (x5_2 : Int) := of_decide_eq_true za
        have q657 : x5_2 < (t654.length : Int) := of_decide_eq_true za
        obtain ⟨ad657, e657, hx657_0, hx657_1, hx657_2⟩ := at_T63 (Kd.R_reads' HO656.out).2.2 x5_2 p657 q657
        cases e657
        replace p657 := eq_true p657
        replace q657 := eq_true q657
        refine hK.out _ _ ⟨HS0_, HS1_, HS2_⟩ (fun hHeld => ?_)
        clear hK K
        refine more_ (S' := fun w' => (spec_l09Connected.c3 w' ad653 x4_1 x3_2 ((spec_l09Connected.d3 w' ad657 x5_2 t654)))) (fun _ h_ => ⟨h_.1, h_.2.1, h_.2.2.1⟩) ⟨hHeld.1, hHeld.2.1, hHeld.2.2, hx657_0, hx657_1, hx657_2⟩ (fun hHeld => ?_)
        refine norm_ (a' := ?_) ?_ ?_
        rotate_left
        ·show Act.put _ (some 25) _ = _
         simp only [Act.put, xA, xB, xC, i64_w, i32_w]
         rfl
        refine zp 6 (some 27) ?_ zA151 rfl rfl (Or.inl ⟨by rfl, ?_⟩) ?_ ?_ ?_
        rotate_left
        ·intro w'
         go_simp
         with_reducible rfl
        rotate_left
        ·simp only [Act.put, xA, xB, xC, i64_w, i32_w]
         rfl
        refine zu 7 (some 28) ?_ zA149 rfl rfl (Or.inl ⟨by rfl, ?_⟩) hHeld ?_ ?_ ?_
        rotate_left
        ·rintro w' ⟨s0, s1, s2, s3, s4, s5⟩
         go_simp
         with_reducible rfl
        rotate_left
        ·simp only [Act.put, xA, xB, xC, i64_w, i32_w]
         rfl
        refine one_ (i := 8) (N := some 29) zA143 rfl rfl (one_of HT_.out (by kernel_rfl)) (by decide) (fun K hK => ?_)
        refine goes_ Try.func52 (by kernel_rfl) rfl #[spec_l09Connected.a3 x3_2 x4_1, spec_l09Connected.a3 t654 x5_2] (by rfl) rfl rfl zm ?_
        with_reducible refine (spec_l09Add.calls ((rd_T63 x3_2 x4_1).f0) ((rd_T63 x3_2 x4_1).f1) ((rd_T63 x3_2 x4_1).f2) ((rd_T63 t654 x5_2).f0) ((rd_T63 t654 x5_2).f1) ((rd_T63 t654 x5_2).f2) t658 t659 t660 _ A13.out).mono ?_
        rintro e w40 ⟨rfl, hb⟩
        have HS0_ := zk hb (hHeld.1)
        have HS1_ := zk hb (hHeld.2.1)
        have HS2_ := zk hb (hHeld.2.2.1)
        have HS3_ := zk hb (hHeld.2.2.2.1)
        have HS4_ := zk hb (hHeld.2.2.2.2.1)
        have HS5_ := zk hb (hHeld.2.2.2.2.2)
        refine ⟨_, rfl, ?_⟩
        have n0_ := aM (Kd.R_below (mR_ HO_3.out) hb)
        have n1_ := aM (Kd.R_below (mR_ HO656.out) hb)
        have n2_ := aM (blk_below (g := gb661) (o := .cells #[.int .i64 0, .int .i64 0, .int .i64 0] 63 (0, 0)) (mB_ BK661.out) hb)
        have n3_ := aM (below_step (zs GE661.out) hb)
        clear HO_3
        clear HO656
        clear BK661
        clear HB
        have HO_3 := n0_
        have HO656 := n1_
        have BK661 := n2_
        have HB := n3_
        clear n0_ n1_ n2_ n3_
        (try clear hb)
        (try clear hb2)
        (try clear hk)
        (try clear hi)
        refine hK.out _ _ ⟨HS0_, HS1_, HS2_, HS3_, HS4_, HS5_⟩ (fun hHeld => ?_)
        clear hK K
        refine norm_ (a' := ?_) ?_ ?_
        rotate_left
        ·show Act.put _ (some 29) _ = _
         simp only [Act.put, xA, xB, xC, i64_w, i32_w]
         rfl
        exact norm_ (by simp only [putAll, Act.put, xA, xB, xC]) (hCont ((.slice (some ad657) t654.length co39, gb661), ad657) _ ⟨hHeld, (zd4 HO656.out), (zd3 HO_3.out), (mB_ BK661.out), GW661.out, GE661.out, (zs GE661.out), ⟨_, rfl⟩⟩)
      rintro ⟨⟨v655, gb661⟩, ad657⟩ w41 ⟨hS_, h0_, h1_, h2_, h3_, h4_, h5_, ⟨c9_, hE9_⟩⟩
      replace hE9_ : v655 = Value.slice (some ad657) t654.length c9_ := hE9_
      subst hE9_
      have p657 : 0 ≤ (x5_2 : Int) := of_decide_eq_true za
      replace p657 := eq_true p657
      have q657 : x5_2 < (t654.length : Int) := of_decide_eq_true za
      replace q657 := eq_true q657
      refine more_ (S' := fun w' => (spec_l09Connected.c3 w' ad653 x4_1 x3_2 ((spec_l09Connected.d3 w' ad657 x5_2 t654)))) (fun _ h_ => h_) hS_ (fun hS_ => ?_)
      have n0_ : Aside0 (Kd.R k63 63 w41 w.heap.size (fun k_ => some k_ ≠ (.slice (some ad653) x3_2.length co36 : Value).ownBlock ∧ k_ ≠ gb661) (.slice (some ad657) t654.length c9_) t654) := ⟨h0_⟩
      have n1_ : Aside0 (Kd.R k63 63 w41 w.heap.size (fun k_ => some k_ ≠ ((.slice (some ad657) t654.length c9_) : Value).ownBlock ∧ k_ ≠ gb661) (.slice (some ad653) x3_2.length co36) x3_2) := ⟨h1_⟩
      have n2_ : Aside0 (w41.heap[gb661]? = some (.cells #[.int .i64 0, .int .i64 0, .int .i64 0] 63 (0, 0))) := ⟨h2_⟩
      have n3_ : Aside0 (w.heap.size ≤ gb661) := ⟨h3_⟩
      have n4_ : Aside0 (w.heap.size ≤ gb661) := ⟨h4_⟩
      have n5_ : Aside0 (Below w.heap.size w w41) := ⟨h5_⟩
      clear HO_3
      clear HB
      clear h0_ h1_ h2_ h3_ h4_ h5_
      have HO656 := n0_
      have HO_3 := n1_
      have BK661 := n2_
      have GW661 := n3_
      have GE661 := n4_
      have HB := n5_
      clear n0_ n1_ n2_ n3_ n4_ n5_
      have hHeld : (spec_l09Connected.c3 w41 ad653 x4_1 x3_2 ((spec_l09Connected.d3 w41 ad657 x5_2 t654))) := hS_
      refine norm_ (a' := ?_) ?_ ?_
      rotate_left
      ·simp only [putAll, Act.put, xA, xB, xC]
       rfl
      refine one_ (i := 10) (N := none) zA152 rfl rfl (one_of HT_.out (by kernel_rfl)) (by decide) (fun K hK => ?_)
      have hs42 : w41.cell? ⟨gb661, 0, none⟩ = some (.int .i64 0) := (blk_cell BK661.out 0).trans rfl
      have hfs42 := blk_frozen BK661.out 0
      have hs43 : w41.cell? ⟨gb661, 1, none⟩ = some (.int .i64 0) := (blk_cell BK661.out 1).trans rfl
      have hfs43 := blk_frozen BK661.out 1
      have hs44 : w41.cell? ⟨gb661, 2, none⟩ = some (.int .i64 0) := (blk_cell BK661.out 2).trans rfl
      have hfs44 := blk_frozen BK661.out 2
      refine skip_ (w1 := ?_) (by rfl) rfl ?_ ?_
      rotate_left
      ·go_simp
       rfl
      refine hK.out _ _ ⟨((cell_far (p := ⟨gb661, _, none⟩) (zd5 HO_3.out) _).trans (((cell_far (p := ⟨gb661, _, none⟩) (zd5 HO_3.out) _).trans (((cell_far (p := ⟨gb661, _, none⟩) (zd5 HO_3.out) _).trans (hHeld.1)))))), ((cell_far (p := ⟨gb661, _, none⟩) (zd5 HO_3.out) _).trans (((cell_far (p := ⟨gb661, _, none⟩) (zd5 HO_3.out) _).trans (((cell_far (p := ⟨gb661, _, none⟩) (zd5 HO_3.out) _).trans (hHeld.2.1)))))), ((cell_far (p := ⟨gb661, _, none⟩) (zd5 HO_3.out) _).trans (((cell_far (p := ⟨gb661, _, none⟩) (zd5 HO_3.out) _).trans (((cell_far (p := ⟨gb661, _, none⟩) (zd5 HO_3.out) _).trans (hHeld.2.2.1)))))), ((cell_far (p := ⟨gb661, _, none⟩) (zd5 HO656.out) _).trans (((cell_far (p := ⟨gb661, _, none⟩) (zd5 HO656.out) _).trans (((cell_far (p := ⟨gb661, _, none⟩) (zd5 HO656.out) _).trans (hHeld.2.2.2.1)))))), ((cell_far (p := ⟨gb661, _, none⟩) (zd5 HO656.out) _).trans (((cell_far (p := ⟨gb661, _, none⟩) (zd5 HO656.out) _).trans (((cell_far (p := ⟨gb661, _, none⟩) (zd5 HO656.out) _).trans (hHeld.2.2.2.2.1)))))), ((cell_far (p := ⟨gb661, _, none⟩) (zd5 HO656.out) _).trans (((cell_far (p := ⟨gb661, _, none⟩) (zd5 HO656.out) _).trans (((cell_far (p := ⟨gb661, _, none⟩) (zd5 HO656.out) _).trans (hHeld.2.2.2.2.2))))))⟩ (fun hHeld => ?_)
      clear hK K
      refine done_ (done_of HT_.out (by kernel_rfl)) ?_
      have hcz45_0 : w41.cell? ⟨gb661, 0, none⟩ = some (.int .i64 0) := (blk_cell BK661.out 0).trans rfl
      have hcz45_1 : w41.cell? ⟨gb661, 1, none⟩ = some (.int .i64 0) := (blk_cell BK661.out 1).trans rfl
      have hcz45_2 : w41.cell? ⟨gb661, 2, none⟩ = some (.int .i64 0) := (blk_cell BK661.out 2).trans rfl
      have hfz45_0 := blk_frozen BK661.out 0
      have hfz45_1 := blk_frozen BK661.out 1
      have hfz45_2 := blk_frozen BK661.out 2
      try go_wp2_with (first | ((with_reducible refine gate_callee (f := 54) rfl ?_); refine goesL_ (some 32) rfl rfl Try.func54 (by kernel_rfl) rfl #[.slice (some ad649) l0.length c0, .agg #[.int .i64 t658, .int .i64 t659, .int .i64 t660]] rfl zm ?_; (with_reducible refine (spec_l09Index.calls k2 _ _ l0 t658 t659 t660 t662 _ ?side1 ?side2 A14.out).mono ?_); (case side1 => exact Kd.C_below HR0.out (zs GE661.out)); (case side2 => exact HC0.out); rintro e w46 ⟨rfl, hb⟩; refine ⟨_, rfl, ?_⟩; have n0_ := aM (Kd.R_below (by (with_reducible repeat (first | apply Kd.R_alloc | apply Kd.R_drewN | apply Kd.R_drew)); exact (Kd.R_mono (Kd.R_far (p := ⟨gb661, 2, none⟩) (Kd.R_far (p := ⟨gb661, 1, none⟩) (Kd.R_far (p := ⟨gb661, 0, none⟩) (Kd.R_mono HO_3.out (fun k_ hk => (⟨hk, hk.2⟩ : _ ∧ k_ ≠ gb661))) (fun _ hk => hk.2) (.int .i64 t658)) (fun _ hk => hk.2) (.int .i64 t659)) (fun _ hk => hk.2) (.int .i64 t660)) (fun _ h_ => h_.1))) hb); have n1_ := aM (Kd.R_below (by (with_reducible repeat (first | apply Kd.R_alloc | apply Kd.R_drewN | apply Kd.R_drew)); exact (Kd.R_mono (Kd.R_far (p := ⟨gb661, 2, none⟩) (Kd.R_far (p := ⟨gb661, 1, none⟩) (Kd.R_far (p := ⟨gb661, 0, none⟩) (Kd.R_mono HO656.out (fun k_ hk => (⟨hk, hk.2⟩ : _ ∧ k_ ≠ gb661))) (fun _ hk => hk.2) (.int .i64 t658)) (fun _ hk => hk.2) (.int .i64 t659)) (fun _ hk => hk.2) (.int .i64 t660)) (fun _ h_ => h_.1))) hb); have n2_ := aM (blk_below (g := gb661) (o := .cells #[.int .i64 t658, .int .i64 t659, .int .i64 t660] 63 (0, 0)) (by (with_reducible repeat (first | refine blk_drewN ?_ _ | refine blk_drew ?_ | refine blk_alloc ?_ _)); refine blk_put (cs := #[.int .i64 t658, .int .i64 t659, .int .i64 0]) ?_ 2 _ rfl; (with_reducible repeat (first | refine blk_drewN ?_ _ | refine blk_drew ?_ | refine blk_alloc ?_ _)); refine blk_put (cs := #[.int .i64 t658, .int .i64 0, .int .i64 0]) ?_ 1 _ rfl; (with_reducible repeat (first | refine blk_drewN ?_ _ | refine blk_drew ?_ | refine blk_alloc ?_ _)); refine blk_put (cs := #[.int .i64 0, .int .i64 0, .int .i64 0]) ?_ 0 _ rfl; (with_reducible repeat (first | refine blk_drewN ?_ _ | refine blk_drew ?_ | refine blk_alloc ?_ _)); exact BK661.out) hb); have n3_ := aM (below_step (zs GE661.out) hb); clear HO_3 HO656 BK661 HB; have HO_3 := n0_; have HO656 := n1_; have BK661 := n2_; have HB := n3_; clear n0_ n1_ n2_ n3_; (try clear hb); (try clear hb2); (try clear hk); (try clear hi); have hcz47_0 : w46.cell? ⟨gb661, 0, none⟩ = some (.int .i64 t658) := (blk_cell BK661.out 0).trans rfl; have hcz47_1 : w46.cell? ⟨gb661, 1, none⟩ = some (.int .i64 t659) := (blk_cell BK661.out 1).trans rfl; have hcz47_2 : w46.cell? ⟨gb661, 2, none⟩ = some (.int .i64 t660) := (blk_cell BK661.out 2).trans rfl; have hfz47_0 := blk_frozen BK661.out 0; have hfz47_1 := blk_frozen BK661.out 1; have hfz47_2 := blk_frozen BK661.out 2) | (go_at_call 54; (with_reducible refine (spec_l09Index.calls k2 _ _ x3_2 t658 t659 t660 t663 _ ?side1 ?side2 A16.out).mono ?_); (case side1 => exact zc HO_3.out); (case side2 => exact (Kd.R_reads' HO_3.out).2.1); rintro e w48 ⟨rfl, hb⟩; have n0_ := aM (Kd.R_below (mR_ HO_3.out) hb); have n1_ := aM (Kd.R_below (mR_ HO656.out) hb); have n2_ := aM (blk_below (g := gb661) (o := .cells #[.int .i64 t658, .int .i64 t659, .int .i64 t660] 63 (0, 0)) (mB_ BK661.out) hb); have n3_ := aM (below_step (zs GE661.out) hb); clear HO_3 HO656 BK661 HB; have HO_3 := n0_; have HO656 := n1_; have BK661 := n2_; have HB := n3_; clear n0_ n1_ n2_ n3_; (try clear hb); (try clear hb2); (try clear hk); (try clear hi)))
      go_roundg k2
      case measure => have := HK1.out; have := HK2.out; omega
      case rel => exact ⟨(x3_2), (wrap64 (x5_2 + 1)), zr, H', ⟨by have := HK1.out; have := HK2.out; omega⟩, ⟨zd1 HO_3.out⟩, ⟨zs GE661.out⟩⟩
     rw [if_pos c17] at H
     have c17b0 : decide (t663 < 0) = true := decide_eq_true c17
     clear c17
     by_cases c18 : x3_2.length < 5864062014805
     rotate_left
     ·rw [if_neg c18] at H
      exact absurd H (by simp)
     rw [if_pos c18] at H
     have LMc18 := aM c18
     clear c18
     obtain ⟨y664, hy664⟩ : ∃ y_ : List (S63), y_ = (x3_2 ++ [(⟨t658, t659, t660⟩ : S63)]) := ⟨_, rfl⟩
     replace H : (spec_l09Connected.l1 k2 l0 y664 x4_1 (wrap64 (x5_2 + 1))) = some r := zy H hy664
     have Ny664 := aM hy664
     clear hy664
     have H' := aM H
     clear H
     try go_wp2
     have n0_ := aM (Kd.R_drew HO_3.out)
     have n1_ := aM (below_drew1 HB.out)
     clear HO_3
     clear HB
     have HO_3 := n0_
     have HB := n1_
     clear n0_ n1_
     obtain ⟨Ao20, co20, eo20⟩ := Kd.R_slice HO_3.out
     (first | subst eo20 | (injection eo20 with f1_ f2_ f3_; have f4_ := f1_.symm; have f5_ := f3_.symm; clear f1_ f2_ f3_; subst f4_; subst f5_))
     have p653 : 0 ≤ (x4_1 : Int) := of_decide_eq_true za
     have q653 : x4_1 < (x3_2.length : Int) := of_decide_eq_true za
     obtain ⟨ad653, e653, hx653_0, hx653_1, hx653_2⟩ := at_T63 (Kd.R_reads' HO_3.out).2.2 x4_1 p653 q653
     cases e653
     replace p653 := eq_true p653
     replace q653 := eq_true q653
     refine start_ (n := 11) (S := fun w' => (spec_l09Connected.d3 w' ad653 x4_1 x3_2)) (ds := []) zA137 (by kernel_rfl) rfl rfl ⟨hx653_0, hx653_1, hx653_2⟩ (fun hHeld => ?_); refine with_tabW spec_l09Connected.tab8 spec_l09Connected.bits8 (fun HT_ HW_ => ?_)
     generalize wr.drew = w19 at HO_3 HB hx653_0 hx653_1 hx653_2 hHeld ⊢
     refine zp 0 (some 21) ?_ zA138 rfl rfl (Or.inl ⟨by rfl, ?_⟩) ?_ ?_ ?_
     rotate_left
     ·intro w'
      go_simp
      with_reducible rfl
     rotate_left
     ·simp only [Act.put, xA, xB, xC, i64_w, i32_w]
      rfl
     refine zp 1 (some 22) ?_ zA139 rfl rfl (Or.inl ⟨by rfl, ?_⟩) ?_ ?_ ?_
     rotate_left
     ·intro w'
      go_simp
      with_reducible rfl
     rotate_left
     ·simp only [Act.put, xA, xB, xC, i64_w, i32_w]
      rfl
     refine zp 2 (some 23) ?_ zA140 rfl rfl (Or.inl ⟨by rfl, ?_⟩) ?_ ?_ ?_
     rotate_left
     ·intro w'
      go_simp
      with_reducible rfl
     rotate_left
     ·simp only [Act.put, xA, xB, xC, i64_w, i32_w]
      rfl
     refine zp 5 (some 26) ?_ zA141 rfl rfl (Or.inl ⟨by rfl, ?_⟩) ?_ ?_ ?_
     rotate_left
     ·intro w'
      go_simp
      with_reducible rfl
     rotate_left
     ·simp only [Act.put, xA, xB, xC, i64_w, i32_w]
      rfl
     refine zu 3 (some 24) ?_ zA142 rfl rfl (Or.inl ⟨by rfl, ?_⟩) hHeld ?_ ?_ ?_
     rotate_left
     ·rintro w' ⟨s0, s1, s2⟩
      go_simp
      with_reducible rfl
     rotate_left
     ·simp only [Act.put, xA, xB, xC, i64_w, i32_w]
      rfl
     refine join9_ (σ := (Value × Nat) × Addr) (fun s_ w' => (spec_l09Connected.c3 w' ad653 x4_1 x3_2 ((spec_l09Connected.d3 w' (s_.2) x5_2 t654)))) 1 zA143 (fun s_ => [(25, s_.1.1), (29, .agg #[.int .i64 t658, .int .i64 t659, .int .i64 t660]), (6, .pointer (some ⟨s_.1.2, 0, none⟩)), (27, .pointer (some (s_.2.add ((x5_2).toNat * 3)))), (28, spec_l09Connected.a3 t654 x5_2)]) (fun s_ w' => ((spec_l09Connected.c3 w' ad653 x4_1 x3_2 ((spec_l09Connected.d3 w' (s_.2) x5_2 t654)))) ∧ (Kd.R k63 63 w' w.heap.size (fun k_ => some k_ ≠ (.slice (some ad653) x3_2.length co20 : Value).ownBlock ∧ k_ ≠ s_.1.2) s_.1.1 t654) ∧ (Kd.R k63 63 w' w.heap.size (fun k_ => some k_ ≠ (s_.1.1 : Value).ownBlock ∧ k_ ≠ s_.1.2) (.slice (some ad653) x3_2.length co20) x3_2) ∧ (w'.heap[s_.1.2]? = some (.cells #[.int .i64 0, .int .i64 0, .int .i64 0] 63 (0, 0))) ∧ (w.heap.size ≤ s_.1.2) ∧ (w.heap.size ≤ s_.1.2) ∧ (Below w.heap.size w w') ∧ (∃ c9_, s_.1.1 = Value.slice (some s_.2) t654.length c9_)) ?_ ?_
     rotate_left
     ·intro hCont
      refine two_ (i := 4) (j := 9) (Ni := some 25) (Nj := some 6) zA144 zA145 rfl rfl rfl rfl (two_of HT_.out (by kernel_rfl)) (by decide) (by decide) (fun K hK => ?_) (fun K hK => ?_)
      ·skip
       refine goes_ Try.func53 (by kernel_rfl) rfl #[] (by rfl) rfl rfl zm ?_
       with_reducible refine (spec_l09Steps.calls  t654 _ A10.out).mono ?_
       rintro e w21 ⟨v655, rfl, ho0, hb⟩
       have HS0_ := zk hb (hHeld.1)
       have HS1_ := zk hb (hHeld.2.1)
       have HS2_ := zk hb (hHeld.2.2)
       refine ⟨_, rfl, ?_⟩
       have n0_ := aM (Kd.R_elder' (mR_ HO_3.out) (Kd.R_base ho0) hb)
       have n1_ := aM (Kd.R_lower (Kd.R_new' ho0 (Kd.R_lt (mR_ HO_3.out))) (below_size zb))
       have n2_ := aM (below_step zb hb)
       clear HO_3
       clear HB
       have HO_3 := n0_
       have HO656 := n1_
       have HB := n2_
       clear n0_ n1_ n2_
       (try clear hb)
       (try clear hb2)
       (try clear hk)
       (try clear hi)
       (try clear ho0)
       obtain ⟨Ao22, co22, eo22⟩ := Kd.R_slice HO656.out
       (first | subst eo22 | (injection eo22 with f1_ f2_ f3_; have f4_ := f1_.symm; have f5_ := f3_.symm; clear f1_ f2_ f3_; subst f4_; subst f5_))
       have p657 : 0 ≤ (x5_2 : Int) := of_decide_eq_true za
       have q657 : x5_2 < (t654.length : Int) := of_decide_eq_true za
       obtain ⟨ad657, e657, hx657_0, hx657_1, hx657_2⟩ := at_T63 (Kd.R_reads' HO656.out).2.2 x5_2 p657 q657
       cases e657
       replace p657 := eq_true p657
       replace q657 := eq_true q657
       refine hK.out _ _ ⟨HS0_, HS1_, HS2_⟩ (fun hHeld => ?_)
       clear hK K
       refine more_ (S' := fun w' => (spec_l09Connected.c3 w' ad653 x4_1 x3_2 ((spec_l09Connected.d3 w' ad657 x5_2 t654)))) (fun _ h_ => ⟨h_.1, h_.2.1, h_.2.2.1⟩) ⟨hHeld.1, hHeld.2.1, hHeld.2.2, hx657_0, hx657_1, hx657_2⟩ (fun hHeld => ?_)
       refine norm_ (a' := ?_) ?_ ?_
       rotate_left
       ·show Act.put _ (some 25) _ = _
        simp only [Act.put, xA, xB, xC, i64_w, i32_w]
        rfl
       refine zp 6 (some 27) ?_ zA146 rfl rfl (Or.inl ⟨by rfl, ?_⟩) ?_ ?_ ?_
       rotate_left
       ·intro w'
        go_simp
        with_reducible rfl
       rotate_left
       ·simp only [Act.put, xA, xB, xC, i64_w, i32_w]
        rfl
       refine zu 7 (some 28) ?_ zA147 rfl rfl (Or.inl ⟨by rfl, ?_⟩) hHeld ?_ ?_ ?_
       rotate_left
       ·rintro w' ⟨s0, s1, s2, s3, s4, s5⟩
        go_simp
        with_reducible rfl
       rotate_left
       ·simp only [Act.put, xA, xB, xC, i64_w, i32_w]
        rfl
       refine two_ (i := 8) (j := 9) (Ni := some 29) (Nj := some 6) zA148 zA149 rfl rfl rfl rfl (two_of HT_.out (by kernel_rfl)) (by decide) (by decide) (fun K hK => ?_) (fun K hK => ?_)
       ·skip
        refine goes_ Try.func52 (by kernel_rfl) rfl #[spec_l09Connected.a3 x3_2 x4_1, spec_l09Connected.a3 t654 x5_2] (by rfl) rfl rfl zm ?_
        with_reducible refine (spec_l09Add.calls ((rd_T63 x3_2 x4_1).f0) ((rd_T63 x3_2 x4_1).f1) ((rd_T63 x3_2 x4_1).f2) ((rd_T63 t654 x5_2).f0) ((rd_T63 t654 x5_2).f1) ((rd_T63 t654 x5_2).f2) t658 t659 t660 _ A13.out).mono ?_
        rintro e w23 ⟨rfl, hb⟩
        have HS0_ := zk hb (hHeld.1)
        have HS1_ := zk hb (hHeld.2.1)
        have HS2_ := zk hb (hHeld.2.2.1)
        have HS3_ := zk hb (hHeld.2.2.2.1)
        have HS4_ := zk hb (hHeld.2.2.2.2.1)
        have HS5_ := zk hb (hHeld.2.2.2.2.2)
        refine ⟨_, rfl, ?_⟩
        have n0_ := aM (Kd.R_below (mR_ HO_3.out) hb)
        have n1_ := aM (Kd.R_below (mR_ HO656.out) hb)
        have n2_ := aM (below_step zb hb)
        clear HO_3
        clear HO656
        clear HB
        have HO_3 := n0_
        have HO656 := n1_
        have HB := n2_
        clear n0_ n1_ n2_
        (try clear hb)
        (try clear hb2)
        (try clear hk)
        (try clear hi)
        refine hK.out _ _ ⟨HS0_, HS1_, HS2_, HS3_, HS4_, HS5_⟩ (fun hHeld => ?_)
        clear hK K
        refine norm_ (a' := ?_) ?_ ?_
        rotate_left
        ·show Act.put _ (some 29) _ = _
         simp only [Act.put, xA, xB, xC, i64_w, i32_w]
         rfl
        refine one_ (i := 9) (N := some 6) zA143 rfl rfl (one_of HT_.out (by kernel_rfl)) (by decide) (fun K hK => ?_)
        refine box_step ?hg (N := 6) ?hd (cs := #[.int .i64 0, .int .i64 0, .int .i64 0]) (t := 63) ?hr ?_; (case hd => rfl); (case hg => rfl); (case hr => first | (go_simp; done) | (go_simp; rfl))
        intro gb661 hg w24 hbox hb
        have HS0_ := zk hb (hHeld.1)
        have HS1_ := zk hb (hHeld.2.1)
        have HS2_ := zk hb (hHeld.2.2.1)
        have HS3_ := zk hb (hHeld.2.2.2.1)
        have HS4_ := zk hb (hHeld.2.2.2.2.1)
        have HS5_ := zk hb (hHeld.2.2.2.2.2)
        have n0_ := aM (Kd.R_below (Kd.R_elderB (mR_ HO_3.out) gb661 (Nat.le_of_eq hg.symm)) hb)
        have n1_ := aM (Kd.R_below (Kd.R_elderB (mR_ HO656.out) gb661 (Nat.le_of_eq hg.symm)) hb)
        have n2_ := aM (below_step zb hb)
        have n3_ := aM (hbox)
        have n4_ := aM ((ze : w.heap.size ≤ gb661))
        have n5_ := aM ((ze : w.heap.size ≤ gb661))
        clear HO_3
        clear HO656
        clear HB
        have HO_3 := n0_
        have HO656 := n1_
        have HB := n2_
        have BK661 := n3_
        have GW661 := n4_
        have GE661 := n5_
        clear n0_ n1_ n2_ n3_ n4_ n5_
        clear hb hbox hg
        refine hK.out _ _ ⟨HS0_, HS1_, HS2_, HS3_, HS4_, HS5_⟩ (fun hHeld => ?_)
        clear hK K
        refine norm_ (a' := ?_) ?_ ?_
        rotate_left
        ·show Act.put _ (some 6) _ = _
         simp only [Act.put, xA, xB, xC, i64_w, i32_w]
         rfl
        exact norm_ (by simp only [putAll, Act.put, xA, xB, xC]) (hCont ((.slice (some ad657) t654.length co22, gb661), ad657) _ ⟨hHeld, (zd4 HO656.out), (zd4 HO_3.out), (mB_ BK661.out), GW661.out, GE661.out, (zs GE661.out), ⟨_, rfl⟩⟩)
       ·skip
        refine box_step ?hg (N := 6) ?hd (cs := #[.int .i64 0, .int .i64 0, .int .i64 0]) (t := 63) ?hr ?_; (case hd => rfl); (case hg => rfl); (case hr => first | (go_simp; done) | (go_simp; rfl))
        intro gb661 hg w23 hbox hb
        have HS0_ := zk hb (hHeld.1)
        have HS1_ := zk hb (hHeld.2.1)
        have HS2_ := zk hb (hHeld.2.2.1)
        have HS3_ := zk hb (hHeld.2.2.2.1)
        have HS4_ := zk hb (hHeld.2.2.2.2.1)
        have HS5_ := zk hb (hHeld.2.2.2.2.2)
        have n0_ := aM (Kd.R_below (Kd.R_elderB (mR_ HO_3.out) gb661 (Nat.le_of_eq hg.symm)) hb)
        have n1_ := aM (Kd.R_below (Kd.R_elderB (mR_ HO656.out) gb661 (Nat.le_of_eq hg.symm)) hb)
        have n2_ := aM (below_step zb hb)
        have n3_ := aM (hbox)
        have n4_ := aM ((ze : w.heap.size ≤ gb661))
        have n5_ := aM ((ze : w.heap.size ≤ gb661))
        clear HO_3
        clear HO656
        clear HB
        have HO_3 := n0_
        have HO656 := n1_
        have HB := n2_
        have BK661 := n3_
        have GW661 := n4_
        have GE661 := n5_
        clear n0_ n1_ n2_ n3_ n4_ n5_
        clear hb hbox hg
        refine hK.out _ _ ⟨HS0_, HS1_, HS2_, HS3_, HS4_, HS5_⟩ (fun hHeld => ?_)
        clear hK K
        refine norm_ (a' := ?_) ?_ ?_
        rotate_left
        ·show Act.put _ (some 6) _ = _
         simp only [Act.put, xA, xB, xC, i64_w, i32_w]
         rfl
        refine one_ (i := 8) (N := some 29) zA143 rfl rfl (one_of HT_.out (by kernel_rfl)) (by decide) (fun K hK => ?_)
        refine goes_ Try.func52 (by kernel_rfl) rfl #[spec_l09Connected.a3 x3_2 x4_1, spec_l09Connected.a3 t654 x5_2] (by rfl) rfl rfl zm ?_
        with_reducible refine (spec_l09Add.calls ((rd_T63 x3_2 x4_1).f0) ((rd_T63 x3_2 x4_1).f1) ((rd_T63 x3_2 x4_1).f2) ((rd_T63 t654 x5_2).f0) ((rd_T63 t654 x5_2).f1) ((rd_T63 t654 x5_2).f2) t658 t659 t660 _ A13.out).mono ?_
        rintro e w24 ⟨rfl, hb⟩
        have HS0_ := zk hb (hHeld.1)
        have HS1_ := zk hb (hHeld.2.1)
        have HS2_ := zk hb (hHeld.2.2.1)
        have HS3_ := zk hb (hHeld.2.2.2.1)
        have HS4_ := zk hb (hHeld.2.2.2.2.1)
        have HS5_ := zk hb (hHeld.2.2.2.2.2)
        refine ⟨_, rfl, ?_⟩
        have n0_ := aM (Kd.R_below (mR_ HO_3.out) hb)
        have n1_ := aM (Kd.R_below (mR_ HO656.out) hb)
        have n2_ := aM (blk_below (g := gb661) (o := .cells #[.int .i64 0, .int .i64 0, .int .i64 0] 63 (0, 0)) (mB_ BK661.out) hb)
        have n3_ := aM (below_step (zs GE661.out) hb)
        clear HO_3
        clear HO656
        clear BK661
        clear HB
        have HO_3 := n0_
        have HO656 := n1_
        have BK661 := n2_
        have HB := n3_
        clear n0_ n1_ n2_ n3_
        (try clear hb)
        (try clear hb2)
        (try clear hk)
        (try clear hi)
        refine hK.out _ _ ⟨HS0_, HS1_, HS2_, HS3_, HS4_, HS5_⟩ (fun hHeld => ?_)
        clear hK K
        refine norm_ (a' := ?_) ?_ ?_
        rotate_left
        ·show Act.put _ (some 29) _ = _
         simp only [Act.put, xA, xB, xC, i64_w, i32_w]
         rfl
        exact norm_ (by simp only [putAll, Act.put, xA, xB, xC]) (hCont ((.slice (some ad657) t654.length co22, gb661), ad657) _ ⟨hHeld, (zd4 HO656.out), (zd4 HO_3.out), (mB_ BK661.out), GW661.out, GE661.out, (zs GE661.out), ⟨_, rfl⟩⟩)
      ·skip
       refine box_step ?hg (N := 6) ?hd (cs := #[.int .i64 0, .int .i64 0, .int .i64 0]) (t := 63) ?hr ?_; (case hd => rfl); (case hg => rfl); (case hr => first | (go_simp; done) | (go_simp; rfl))
       intro gb661 hg w21 hbox hb
       have HS0_ := zk hb (hHeld.1)
       have HS1_ := zk hb (hHeld.2.1)
       have HS2_ := zk hb (hHeld.2.2)
       have n0_ := aM (Kd.R_below (Kd.R_elderB (mR_ HO_3.out) gb661 (Nat.le_of_eq hg.symm)) hb)
       have n1_ := aM (below_step zb hb)
       have n2_ := aM (hbox)
       have n3_ := aM ((ze : w.heap.size ≤ gb661))
       have n4_ := aM ((ze : w.heap.size ≤ gb661))
       clear HO_3
       clear HB
       have HO_3 := n0_
       have HB := n1_
       have BK661 := n2_
       have GW661 := n3_
       have GE661 := n4_
       clear n0_ n1_ n2_ n3_ n4_
       clear hb hbox hg
       refine hK.out _ _ ⟨HS0_, HS1_, HS2_⟩ (fun hHeld => ?_)
       clear hK K
       refine norm_ (a' := ?_) ?_ ?_
       rotate_left
       ·show Act.put _ (some 6) _ = _
        simp only [Act.put, xA, xB, xC, i64_w, i32_w]
        rfl
       refine one_ (i := 4) (N := some 25) zA150 rfl rfl (one_of HT_.out (by kernel_rfl)) (by decide) (fun K hK => ?_)
       refine goes_ Try.func53 (by kernel_rfl) rfl #[] (by rfl) rfl rfl zm ?_
       with_reducible refine (spec_l09Steps.calls  t654 _ A10.out).mono ?_
       rintro e w22 ⟨v655, rfl, ho0, hb⟩
       have HS0_ := zk hb (hHeld.1)
       have HS1_ := zk hb (hHeld.2.1)
       have HS2_ := zk hb (hHeld.2.2)
       refine ⟨_, rfl, ?_⟩
       have n0_ := aM (Kd.R_elder' (mR_ HO_3.out) (Kd.R_base ho0) hb)
       have n1_ := aM (Kd.R_lower (Kd.R_newB (Kd.R_new' ho0 (Kd.R_lt (mR_ HO_3.out))) (g := gb661) (o := .cells #[.int .i64 0, .int .i64 0, .int .i64 0] 63 (0, 0)) (mB_ BK661.out)) (below_size (zs GE661.out)))
       have n2_ := aM (blk_below (g := gb661) (o := .cells #[.int .i64 0, .int .i64 0, .int .i64 0] 63 (0, 0)) (mB_ BK661.out) hb)
       have n3_ := aM (below_step (zs GE661.out) hb)
       clear HO_3
       clear BK661
       clear HB
       have HO_3 := n0_
       have HO656 := n1_
       have BK661 := n2_
       have HB := n3_
       clear n0_ n1_ n2_ n3_
       (try clear hb)
       (try clear hb2)
       (try clear hk)
       (try clear hi)
       (try clear ho0)
       obtain ⟨Ao23, co23, eo23⟩ := Kd.R_slice HO656.out
       (first | subst eo23 | (injection eo23 with f1_ f2_ f3_; have f4_ := f1_.symm; have f5_ := f3_.symm; clear f1_ f2_ f3_; subst f4_; subst f5_))
       have p657 : 0 ≤ (x5_2 : Int) := of_decide_eq_true za
       have q657 : x5_2 < (t654.length : Int) := of_decide_eq_true za
       obtain ⟨ad657, e657, hx657_0, hx657_1, hx657_2⟩ := at_T63 (Kd.R_reads' HO656.out).2.2 x5_2 p657 q657
       cases e657
       replace p657 := eq_true p657
       replace q657 := eq_true q657
       refine hK.out _ _ ⟨HS0_, HS1_, HS2_⟩ (fun hHeld => ?_)
       clear hK K
       refine more_ (S' := fun w' => (spec_l09Connected.c3 w' ad653 x4_1 x3_2 ((spec_l09Connected.d3 w' ad657 x5_2 t654)))) (fun _ h_ => ⟨h_.1, h_.2.1, h_.2.2.1⟩) ⟨hHeld.1, hHeld.2.1, hHeld.2.2, hx657_0, hx657_1, hx657_2⟩ (fun hHeld => ?_)
       refine norm_ (a' := ?_) ?_ ?_
       rotate_left
       ·show Act.put _ (some 25) _ = _
        simp only [Act.put, xA, xB, xC, i64_w, i32_w]
        rfl
       refine zp 6 (some 27) ?_ zA151 rfl rfl (Or.inl ⟨by rfl, ?_⟩) ?_ ?_ ?_
       rotate_left
       ·intro w'
        go_simp
        with_reducible rfl
       rotate_left
       ·simp only [Act.put, xA, xB, xC, i64_w, i32_w]
        rfl
       refine zu 7 (some 28) ?_ zA149 rfl rfl (Or.inl ⟨by rfl, ?_⟩) hHeld ?_ ?_ ?_
       rotate_left
       ·rintro w' ⟨s0, s1, s2, s3, s4, s5⟩
        go_simp
        with_reducible rfl
       rotate_left
       ·simp only [Act.put, xA, xB, xC, i64_w, i32_w]
        rfl
       refine one_ (i := 8) (N := some 29) zA143 rfl rfl (one_of HT_.out (by kernel_rfl)) (by decide) (fun K hK => ?_)
       refine goes_ Try.func52 (by kernel_rfl) rfl #[spec_l09Connected.a3 x3_2 x4_1, spec_l09Connected.a3 t654 x5_2] (by rfl) rfl rfl zm ?_
       with_reducible refine (spec_l09Add.calls ((rd_T63 x3_2 x4_1).f0) ((rd_T63 x3_2 x4_1).f1) ((rd_T63 x3_2 x4_1).f2) ((rd_T63 t654 x5_2).f0) ((rd_T63 t654 x5_2).f1) ((rd_T63 t654 x5_2).f2) t658 t659 t660 _ A13.out).mono ?_
       rintro e w24 ⟨rfl, hb⟩
       have HS0_ := zk hb (hHeld.1)
       have HS1_ := zk hb (hHeld.2.1)
       have HS2_ := zk hb (hHeld.2.2.1)
       have HS3_ := zk hb (hHeld.2.2.2.1)
       have HS4_ := zk hb (hHeld.2.2.2.2.1)
       have HS5_ := zk hb (hHeld.2.2.2.2.2)
       refine ⟨_, rfl, ?_⟩
       have n0_ := aM (Kd.R_below (mR_ HO_3.out) hb)
       have n1_ := aM (Kd.R_below (mR_ HO656.out) hb)
       have n2_ := aM (blk_below (g := gb661) (o := .cells #[.int .i64 0, .int .i64 0, .int .i64 0] 63 (0, 0)) (mB_ BK661.out) hb)
       have n3_ := aM (below_step (zs GE661.out) hb)
       clear HO_3
       clear HO656
       clear BK661
       clear HB
       have HO_3 := n0_
       have HO656 := n1_
       have BK661 := n2_
       have HB := n3_
       clear n0_ n1_ n2_ n3_
       (try clear hb)
       (try clear hb2)
       (try clear hk)
       (try clear hi)
       refine hK.out _ _ ⟨HS0_, HS1_, HS2_, HS3_, HS4_, HS5_⟩ (fun hHeld => ?_)
       clear hK K
       refine norm_ (a' := ?_) ?_ ?_
       rotate_left
       ·show Act.put _ (some 29) _ = _
        simp only [Act.put, xA, xB, xC, i64_w, i32_w]
        rfl
       exact norm_ (by simp only [putAll, Act.put, xA, xB, xC]) (hCont ((.slice (some ad657) t654.length co23, gb661), ad657) _ ⟨hHeld, (zd4 HO656.out), (zd3 HO_3.out), (mB_ BK661.out), GW661.out, GE661.out, (zs GE661.out), ⟨_, rfl⟩⟩)
     rintro ⟨⟨v655, gb661⟩, ad657⟩ w25 ⟨hS_, h0_, h1_, h2_, h3_, h4_, h5_, ⟨c9_, hE9_⟩⟩
     replace hE9_ : v655 = Value.slice (some ad657) t654.length c9_ := hE9_
     subst hE9_
     have p657 : 0 ≤ (x5_2 : Int) := of_decide_eq_true za
     replace p657 := eq_true p657
     have q657 : x5_2 < (t654.length : Int) := of_decide_eq_true za
     replace q657 := eq_true q657
     refine more_ (S' := fun w' => (spec_l09Connected.c3 w' ad653 x4_1 x3_2 ((spec_l09Connected.d3 w' ad657 x5_2 t654)))) (fun _ h_ => h_) hS_ (fun hS_ => ?_)
     have n0_ : Aside0 (Kd.R k63 63 w25 w.heap.size (fun k_ => some k_ ≠ (.slice (some ad653) x3_2.length co20 : Value).ownBlock ∧ k_ ≠ gb661) (.slice (some ad657) t654.length c9_) t654) := ⟨h0_⟩
     have n1_ : Aside0 (Kd.R k63 63 w25 w.heap.size (fun k_ => some k_ ≠ ((.slice (some ad657) t654.length c9_) : Value).ownBlock ∧ k_ ≠ gb661) (.slice (some ad653) x3_2.length co20) x3_2) := ⟨h1_⟩
     have n2_ : Aside0 (w25.heap[gb661]? = some (.cells #[.int .i64 0, .int .i64 0, .int .i64 0] 63 (0, 0))) := ⟨h2_⟩
     have n3_ : Aside0 (w.heap.size ≤ gb661) := ⟨h3_⟩
     have n4_ : Aside0 (w.heap.size ≤ gb661) := ⟨h4_⟩
     have n5_ : Aside0 (Below w.heap.size w w25) := ⟨h5_⟩
     clear HO_3
     clear HB
     clear h0_ h1_ h2_ h3_ h4_ h5_
     have HO656 := n0_
     have HO_3 := n1_
     have BK661 := n2_
     have GW661 := n3_
     have GE661 := n4_
     have HB := n5_
     clear n0_ n1_ n2_ n3_ n4_ n5_
     have hHeld : (spec_l09Connected.c3 w25 ad653 x4_1 x3_2 ((spec_l09Connected.d3 w25 ad657 x5_2 t654))) := hS_
     refine norm_ (a' := ?_) ?_ ?_
     rotate_left
     ·simp only [putAll, Act.put, xA, xB, xC]
      rfl
     refine one_ (i := 10) (N := none) zA152 rfl rfl (one_of HT_.out (by kernel_rfl)) (by decide) (fun K hK => ?_)
     have hs26 : w25.cell? ⟨gb661, 0, none⟩ = some (.int .i64 0) := (blk_cell BK661.out 0).trans rfl
     have hfs26 := blk_frozen BK661.out 0
     have hs27 : w25.cell? ⟨gb661, 1, none⟩ = some (.int .i64 0) := (blk_cell BK661.out 1).trans rfl
     have hfs27 := blk_frozen BK661.out 1
     have hs28 : w25.cell? ⟨gb661, 2, none⟩ = some (.int .i64 0) := (blk_cell BK661.out 2).trans rfl
     have hfs28 := blk_frozen BK661.out 2
     refine skip_ (w1 := ?_) (by rfl) rfl ?_ ?_
     rotate_left
     ·go_simp
      rfl
     refine hK.out _ _ ⟨((cell_far (p := ⟨gb661, _, none⟩) (zd5 HO_3.out) _).trans (((cell_far (p := ⟨gb661, _, none⟩) (zd5 HO_3.out) _).trans (((cell_far (p := ⟨gb661, _, none⟩) (zd5 HO_3.out) _).trans (hHeld.1)))))), ((cell_far (p := ⟨gb661, _, none⟩) (zd5 HO_3.out) _).trans (((cell_far (p := ⟨gb661, _, none⟩) (zd5 HO_3.out) _).trans (((cell_far (p := ⟨gb661, _, none⟩) (zd5 HO_3.out) _).trans (hHeld.2.1)))))), ((cell_far (p := ⟨gb661, _, none⟩) (zd5 HO_3.out) _).trans (((cell_far (p := ⟨gb661, _, none⟩) (zd5 HO_3.out) _).trans (((cell_far (p := ⟨gb661, _, none⟩) (zd5 HO_3.out) _).trans (hHeld.2.2.1)))))), ((cell_far (p := ⟨gb661, _, none⟩) (zd5 HO656.out) _).trans (((cell_far (p := ⟨gb661, _, none⟩) (zd5 HO656.out) _).trans (((cell_far (p := ⟨gb661, _, none⟩) (zd5 HO656.out) _).trans (hHeld.2.2.2.1)))))), ((cell_far (p := ⟨gb661, _, none⟩) (zd5 HO656.out) _).trans (((cell_far (p := ⟨gb661, _, none⟩) (zd5 HO656.out) _).trans (((cell_far (p := ⟨gb661, _, none⟩) (zd5 HO656.out) _).trans (hHeld.2.2.2.2.1)))))), ((cell_far (p := ⟨gb661, _, none⟩) (zd5 HO656.out) _).trans (((cell_far (p := ⟨gb661, _, none⟩) (zd5 HO656.out) _).trans (((cell_far (p := ⟨gb661, _, none⟩) (zd5 HO656.out) _).trans (hHeld.2.2.2.2.2))))))⟩ (fun hHeld => ?_)
     clear hK K
     refine done_ (done_of HT_.out (by kernel_rfl)) ?_
     have hcz29_0 : w25.cell? ⟨gb661, 0, none⟩ = some (.int .i64 0) := (blk_cell BK661.out 0).trans rfl
     have hcz29_1 : w25.cell? ⟨gb661, 1, none⟩ = some (.int .i64 0) := (blk_cell BK661.out 1).trans rfl
     have hcz29_2 : w25.cell? ⟨gb661, 2, none⟩ = some (.int .i64 0) := (blk_cell BK661.out 2).trans rfl
     have hfz29_0 := blk_frozen BK661.out 0
     have hfz29_1 := blk_frozen BK661.out 1
     have hfz29_2 := blk_frozen BK661.out 2
     try go_wp2_with (first | ((with_reducible refine gate_callee (f := 54) rfl ?_); refine goesL_ (some 32) rfl rfl Try.func54 (by kernel_rfl) rfl #[.slice (some ad649) l0.length c0, .agg #[.int .i64 t658, .int .i64 t659, .int .i64 t660]] rfl zm ?_; (with_reducible refine (spec_l09Index.calls k2 _ _ l0 t658 t659 t660 t662 _ ?side1 ?side2 A14.out).mono ?_); (case side1 => exact Kd.C_below HR0.out (zs GE661.out)); (case side2 => exact HC0.out); rintro e w30 ⟨rfl, hb⟩; refine ⟨_, rfl, ?_⟩; have n0_ := aM (Kd.R_below (by (with_reducible repeat (first | apply Kd.R_alloc | apply Kd.R_drewN | apply Kd.R_drew)); exact (Kd.R_mono (Kd.R_far (p := ⟨gb661, 2, none⟩) (Kd.R_far (p := ⟨gb661, 1, none⟩) (Kd.R_far (p := ⟨gb661, 0, none⟩) (Kd.R_mono HO_3.out (fun k_ hk => (⟨hk, hk.2⟩ : _ ∧ k_ ≠ gb661))) (fun _ hk => hk.2) (.int .i64 t658)) (fun _ hk => hk.2) (.int .i64 t659)) (fun _ hk => hk.2) (.int .i64 t660)) (fun _ h_ => h_.1))) hb); have n1_ := aM (Kd.R_below (by (with_reducible repeat (first | apply Kd.R_alloc | apply Kd.R_drewN | apply Kd.R_drew)); exact (Kd.R_mono (Kd.R_far (p := ⟨gb661, 2, none⟩) (Kd.R_far (p := ⟨gb661, 1, none⟩) (Kd.R_far (p := ⟨gb661, 0, none⟩) (Kd.R_mono HO656.out (fun k_ hk => (⟨hk, hk.2⟩ : _ ∧ k_ ≠ gb661))) (fun _ hk => hk.2) (.int .i64 t658)) (fun _ hk => hk.2) (.int .i64 t659)) (fun _ hk => hk.2) (.int .i64 t660)) (fun _ h_ => h_.1))) hb); have n2_ := aM (blk_below (g := gb661) (o := .cells #[.int .i64 t658, .int .i64 t659, .int .i64 t660] 63 (0, 0)) (by (with_reducible repeat (first | refine blk_drewN ?_ _ | refine blk_drew ?_ | refine blk_alloc ?_ _)); refine blk_put (cs := #[.int .i64 t658, .int .i64 t659, .int .i64 0]) ?_ 2 _ rfl; (with_reducible repeat (first | refine blk_drewN ?_ _ | refine blk_drew ?_ | refine blk_alloc ?_ _)); refine blk_put (cs := #[.int .i64 t658, .int .i64 0, .int .i64 0]) ?_ 1 _ rfl; (with_reducible repeat (first | refine blk_drewN ?_ _ | refine blk_drew ?_ | refine blk_alloc ?_ _)); refine blk_put (cs := #[.int .i64 0, .int .i64 0, .int .i64 0]) ?_ 0 _ rfl; (with_reducible repeat (first | refine blk_drewN ?_ _ | refine blk_drew ?_ | refine blk_alloc ?_ _)); exact BK661.out) hb); have n3_ := aM (below_step (zs GE661.out) hb); clear HO_3 HO656 BK661 HB; have HO_3 := n0_; have HO656 := n1_; have BK661 := n2_; have HB := n3_; clear n0_ n1_ n2_ n3_; (try clear hb); (try clear hb2); (try clear hk); (try clear hi); have hcz31_0 : w30.cell? ⟨gb661, 0, none⟩ = some (.int .i64 t658) := (blk_cell BK661.out 0).trans rfl; have hcz31_1 : w30.cell? ⟨gb661, 1, none⟩ = some (.int .i64 t659) := (blk_cell BK661.out 1).trans rfl; have hcz31_2 : w30.cell? ⟨gb661, 2, none⟩ = some (.int .i64 t660) := (blk_cell BK661.out 2).trans rfl; have hfz31_0 := blk_frozen BK661.out 0; have hfz31_1 := blk_frozen BK661.out 1; have hfz31_2 := blk_frozen BK661.out 2) | (go_at_call 54; (with_reducible refine (spec_l09Index.calls k2 _ _ x3_2 t658 t659 t660 t663 _ ?side1 ?side2 A16.out).mono ?_); (case side1 => exact zc HO_3.out); (case side2 => exact (Kd.R_reads' HO_3.out).2.1); rintro e w32 ⟨rfl, hb⟩; have n0_ := aM (Kd.R_below (mR_ HO_3.out) hb); have n1_ := aM (Kd.R_below (mR_ HO656.out) hb); have n2_ := aM (blk_below (g := gb661) (o := .cells #[.int .i64 t658, .int .i64 t659, .int .i64 t660] 63 (0, 0)) (mB_ BK661.out) hb); have n3_ := aM (below_step (zs GE661.out) hb); clear HO_3 HO656 BK661 HB; have HO_3 := n0_; have HO656 := n1_; have BK661 := n2_; have HB := n3_; clear n0_ n1_ n2_ n3_; (try clear hb); (try clear hb2); (try clear hk); (try clear hi); have hcz33_0 : w32.cell? ⟨gb661, 0, none⟩ = some (.int .i64 t658) := (blk_cell BK661.out 0).trans rfl; have hcz33_1 : w32.cell? ⟨gb661, 1, none⟩ = some (.int .i64 t659) := (blk_cell BK661.out 1).trans rfl; have hcz33_2 : w32.cell? ⟨gb661, 2, none⟩ = some (.int .i64 t660) := (blk_cell BK661.out 2).trans rfl; have hfz33_0 := blk_frozen BK661.out 0; have hfz33_1 := blk_frozen BK661.out 1; have hfz33_2 := blk_frozen BK661.out 2) | ((with_reducible refine gate_builtin (b := .append) (xs := #[.tmp 40, .tmp 42]) rfl ?_); at_builtin; refine Kd.R_append k63 (w0 := w) w.heap.size rfl (.tmp 40) (.tmp 42) 34 63 (.agg #[(.int .i64 0), (.int .i64 0), (.int .i64 0)]) 24 rfl Try.underlying34 info63 rfl (by decide) (by omega) (.slice (some ad653) x3_2.length co20) x3_2 (⟨t658, t659, t660⟩ : S63) [.int .i64 t658, .int .i64 t659, .int .i64 t660] (fun k_ => some k_ ≠ ((.slice (some ad657) t654.length c9_) : Value).ownBlock ∧ k_ ≠ gb661) (fun _ => False) rfl rfl ?aP (fun _ hk => hk.elim) ?aF ?aO ?aB ?aS ?aL ?_; (case aP => exact k63_mkM _ _ _ (⟨t658, t659, t660⟩ : S63)); (case aB => exact (zs GE661.out)); (case aF => exact (fun k_ hk => ⟨Kd.fresh' (Kd.R_lt (mR_ HO656.out)) k_ hk, Kd.freshB (g := gb661) (o := .cells #[.int .i64 t658, .int .i64 t659, .int .i64 t660] 63 (0, 0)) (mB_ BK661.out) k_ hk⟩)); (case aO => exact (mR_ HO_3.out)); (case aS => exact (below_size (zs GE661.out))); (case aL => have := LMc18.out; omega); intro v665 w34 ho hb hg hat; rw [← Ny664.out] at ho; have n0_ := aM (Kd.R_after (ok := (fun k_ => k_ ≠ gb661)) (zd2 HO656.out) hg hat); have n1_ := aM (blk_grown (g := gb661) (o := .cells #[.int .i64 t658, .int .i64 t659, .int .i64 t660] 63 (0, 0)) (mB_ BK661.out) hg (Kd.R_away HO_3.out (fun _ hk => hk.2))); have n2_ := aM (hb); have n3_ := aM (ho); clear HO656 BK661 HB HO_3; have HO656 := n0_; have BK661 := n1_; have HB := n2_; have HO666 := n3_; clear n0_ n1_ n2_ n3_; clear ho hb hg hat))
     go_roundg k2
     case measure => have := HK1.out; have := HK2.out; omega
     case rel => exact ⟨(y664), (wrap64 (x5_2 + 1)), zr, H', ⟨by have := HK1.out; have := HK2.out; omega⟩, ⟨zd1 HO666.out⟩, ⟨zs GE661.out⟩⟩
end Go.Proofs.Ytonldmalaajkgaa.F
end
section
namespace Go.Proofs.Ytonldmalaajkgaa.F
open Go.RowKit Go.Proofs.YtonldmalaajkgaaW.PrintWords Go.Proofs.YtonldmalaajkgaaW.PrintLast Go.Proofs.YtonldmalaajkgaaW.PrintMore
attribute [local go_sem] max2_int min2_int max_two min_two max_three min_three max_four min_four
set_option linter.unusedVariables false
set_option linter.unusedSimpArgs false
attribute [local go_sem high] eqA63
def spec_IsSolid.f (k : Nat) (l0 : List (S63)) : Option (Bool × Bool) := (spec_l09Solid.f k l0).bind fun t667 => (if t667 = true then ((spec_l09Connected.f k l0).bind fun t668 => (some (true, t668))) else (some (false, false)))
theorem spec_IsSolid.calls (k : Nat) (A0 : Option Addr) (c0 : Nat) (l0 : List (S63)) (r1 : Bool) (r2 : Bool) (w : World) (hr0 : Kd.C k63 w A0 l0.length l0) (hc0 : l0.length ≤ c0) (h : spec_IsSolid.f k l0 = some (r1, r2)) :
  Calls Try.prog 23 #[.slice A0 l0.length c0] w fun e w' => e = .returned (.tuple #[.bool r1, .bool r2]) ∧ Below w.heap.size w w' := by
 have HR0 := aM hr0
 have HC0 := aM hc0
 clear hr0 hc0
 have HB := aM (Below.refl w.heap.size w)
 have H : ((spec_l09Solid.f k l0).bind fun t667 => (if t667 = true then ((spec_l09Connected.f k l0).bind fun t668 => (some (true, t668))) else (some (false, false)))) = some (r1, r2) := h
 clear h
 replace H := Option.bind_eq_some_iff.mp H
 obtain ⟨t667, A20, H⟩ := H
 replace H : (if t667 = true then ((spec_l09Connected.f k l0).bind fun t668 => (some (true, t668))) else (some (false, false))) = some (r1, r2) := H
 have A2 := aM A20
 clear A20
 by_cases c3 : t667 = true
 rotate_left
 ·replace c3 := Bool.eq_false_iff.mpr c3
  subst c3
  have H1 : (some (false, false)) = some (r1, r2) := by rw [if_neg (show ¬ (false = true) by decide)] at H; exact H
  clear H
  have H := H1
  clear H1
  simp only [Option.some.injEq, Prod.mk.injEq] at H
  obtain ⟨rfl, rfl⟩ := H
  go_enter Try.func23, Try.ntmps23
  go_wp2_with (first | ((with_reducible refine gate_callee (f := 48) rfl ?_); refine goesL_ (some 5) rfl rfl Try.func48 (by kernel_rfl) rfl #[.slice A0 l0.length c0] rfl zm ?_; (with_reducible refine (spec_l09Solid.calls k _ _ l0 false _ ?side1 ?side2 A2.out).mono ?_); (case side1 => repeat (first | exact HR0.out | (with_reducible refine Kd.C_alloc ?_ _) | (with_reducible refine Kd.C_drewN ?_ _) | (with_reducible refine Kd.C_drew ?_))); (case side2 => exact HC0.out); rintro e w7 ⟨rfl, hb⟩; refine ⟨_, rfl, ?_⟩; have n0_ := aM (below_step zb hb); clear HB; have HB := n0_; clear n0_; (try clear hb); (try clear hb2); (try clear hk); (try clear hi)))
  go_ret2
  exact ⟨zw, zb⟩
 subst c3
 have H1 : ((spec_l09Connected.f k l0).bind fun t668 => (some (true, t668))) = some (r1, r2) := by rw [if_pos rfl] at H; exact H
 clear H
 have H := H1
 clear H1
 replace H := Option.bind_eq_some_iff.mp H
 obtain ⟨t668, A40, H⟩ := H
 replace H : (some (true, t668)) = some (r1, r2) := H
 have A4 := aM A40
 clear A40
 simp only [Option.some.injEq, Prod.mk.injEq] at H
 obtain ⟨rfl, rfl⟩ := H
 go_enter Try.func23, Try.ntmps23
 go_wp2_with (first | ((with_reducible refine gate_callee (f := 48) rfl ?_); refine goesL_ (some 5) rfl rfl Try.func48 (by kernel_rfl) rfl #[.slice A0 l0.length c0] rfl zm ?_; (with_reducible refine (spec_l09Solid.calls k _ _ l0 true _ ?side1 ?side2 A2.out).mono ?_); (case side1 => repeat (first | exact HR0.out | (with_reducible refine Kd.C_alloc ?_ _) | (with_reducible refine Kd.C_drewN ?_ _) | (with_reducible refine Kd.C_drew ?_))); (case side2 => exact HC0.out); rintro e w5 ⟨rfl, hb⟩; refine ⟨_, rfl, ?_⟩; have n0_ := aM (below_step zb hb); clear HB; have HB := n0_; clear n0_; (try clear hb); (try clear hb2); (try clear hk); (try clear hi)) | ((with_reducible refine gate_callee (f := 49) rfl ?_); refine goesL_ (some 8) rfl rfl Try.func49 (by kernel_rfl) rfl #[.slice A0 l0.length c0] rfl zm ?_; (with_reducible refine (spec_l09Connected.calls k _ _ l0 t668 _ ?side1 ?side2 A4.out).mono ?_); (case side1 => repeat (first | exact (Kd.C_below HR0.out HB.out) | (with_reducible refine Kd.C_alloc ?_ _) | (with_reducible refine Kd.C_drewN ?_ _) | (with_reducible refine Kd.C_drew ?_))); (case side2 => exact HC0.out); rintro e w6 ⟨rfl, hb⟩; refine ⟨_, rfl, ?_⟩; have n0_ := aM (below_step zb hb); clear HB; have HB := n0_; clear n0_; (try clear hb); (try clear hb2); (try clear hk); (try clear hi)))
 go_ret2
 exact ⟨zw, zb⟩
def laws_likeCubes.l0 : Nat → List (S63) → List (S63) → Int → Option (Bool)
 | 0, _, _, _ => none
 | k + 1, x0, x1, x5 => if x5 < (x0.length : Int) then (if 0 ≤ x5 then (if x5 < (x1.length : Int) then (if (!(((rd_T63 x0 x5).f0) == ((rd_T63 x1 x5).f0)) || (!(((rd_T63 x0 x5).f1) == ((rd_T63 x1 x5).f1)) || (!(((rd_T63 x0 x5).f2) == ((rd_T63 x1 x5).f2))))) = true then (some false) else (laws_likeCubes.l0 k x0 x1 (wrap64 (x5 + 1)))) else (none)) else (none)) else (some true)
def laws_likeCubes.f (k : Nat) (l0 : List (S63)) (l1 : List (S63)) : Option (Bool) := if (l0.length : Int) = (l1.length : Int) then (laws_likeCubes.l0 k l0 l1 0) else (some false)
theorem laws_likeCubes.calls (k : Nat) (A0 : Option Addr) (c0 : Nat) (l0 : List (S63)) (A1 : Option Addr) (c1 : Nat) (l1 : List (S63)) (r : Bool) (w : World) (hr0 : Kd.C k63 w A0 l0.length l0) (hc0 : l0.length ≤ c0) (hr1 : Kd.C k63 w A1 l1.length l1) (hc1 : l1.length ≤ c1) (h : laws_likeCubes.f k l0 l1 = some r) :
  Calls Try.prog 24 #[.slice A0 l0.length c0, .slice A1 l1.length c1] w fun e w' => e = .returned (.bool r) ∧ Drawn0 w w' := by
 have hu63 := Try.underlying63
 have HR0 := aM hr0
 have HC0 := aM hc0
 clear hr0 hc0
 have HR1 := aM hr1
 have HC1 := aM hc1
 clear hr1 hc1
 have H : (if (l0.length : Int) = (l1.length : Int) then (laws_likeCubes.l0 k l0 l1 0) else (some false)) = some r := h
 clear h
 by_cases c3 : (l0.length : Int) = (l1.length : Int)
 rotate_left
 ·rw [if_neg c3] at H
  have c3b0 : ((l0.length : Int) == (l1.length : Int)) = false := beq_eq_false_iff_ne.mpr c3
  have c3b1 : ((l0.length : Int) != (l1.length : Int)) = true := bne_iff_ne.mpr c3
  have c3b2 : (l0.length == l1.length) = false := by first | simpa using c3 | (simp at c3 ⊢; omega)
  obtain rfl := Option.some.inj H
  go_enter Try.func24, Try.ntmps24
  go_wp2
  repeat (go_quiet (fail); try go_wp2)
  go_ret
  exact ⟨by first | rfl | (simp; done) | (simp [*]; done), by repeat (first | exact Drawn0.refl _ | apply Drawn0.step)⟩
 rw [if_pos c3] at H
 have c3b0 : ((l0.length : Int) == (l1.length : Int)) = true := beq_iff_eq.mpr c3
 have c3b1 : ((l0.length : Int) != (l1.length : Int)) = false := bne_eq_false_iff_eq.mpr c3
 have c3b2 : (l0.length == l1.length) = true := by first | simpa using c3 | (simp at c3 ⊢; omega)
 clear c3
 have H' := aM H
 clear H
 go_enter Try.func24, Try.ntmps24
 go_wp2
 repeat (go_quiet (fail); try go_wp2)
 go_loopg [5] k (fun kq v5 w' => ∃ (x5_1 : Int), v5 = .int .i64 x5_1 ∧ Aside0 (laws_likeCubes.l0 kq l0 l1 x5_1 = some r) ∧ Aside0 (kq ≤ k) ∧ Drawn0 w w')
 case atStart => exact ⟨(0), zr, H', ⟨Nat.le_refl _⟩, by repeat (first | exact Drawn0.refl _ | apply Drawn0.step)⟩
 case round =>
  clear H'
  try clear c1
  try clear c2
  try clear p2
  try clear c3
  try clear c3b0
  try clear c3b1
  try clear c3b2
  obtain ⟨x5_1, rfl, HA, HK1, ⟨m1, rfl⟩⟩ := hrel
  cases gk with
  | zero => exact absurd HA.out (by simp [laws_likeCubes.l0])
  | succ k1 =>
   have H := HA.out
   clear HA
   simp only [laws_likeCubes.l0] at H
   by_cases c4 : x5_1 < (l0.length : Int)
   rotate_left
   ·rw [if_neg c4] at H
    have c4b0 : decide (x5_1 < (l0.length : Int)) = false := decide_eq_false c4
    clear c4
    obtain rfl := Option.some.inj H
    go_wp2
    repeat (go_quiet (fail); try go_wp2)
    go_ret
    exact ⟨by first | rfl | (simp; done) | (simp [*]; done), by repeat (first | exact Drawn0.refl _ | apply Drawn0.step)⟩
   rw [if_pos c4] at H
   have c4b0 : decide (x5_1 < (l0.length : Int)) = true := decide_eq_true c4
   clear c4
   by_cases c5 : 0 ≤ x5_1
   rotate_left
   ·rw [if_neg c5] at H
    exact absurd H (by simp)
   rw [if_pos c5] at H
   have c5b0 : decide (0 ≤ x5_1) = true := decide_eq_true c5
   clear c5
   by_cases c6 : x5_1 < (l1.length : Int)
   rotate_left
   ·rw [if_neg c6] at H
    exact absurd H (by simp)
   rw [if_pos c6] at H
   have c6b0 : decide (x5_1 < (l1.length : Int)) = true := decide_eq_true c6
   clear c6
   by_cases c7 : (!(((rd_T63 l0 x5_1).f0) == ((rd_T63 l1 x5_1).f0)) || (!(((rd_T63 l0 x5_1).f1) == ((rd_T63 l1 x5_1).f1)) || (!(((rd_T63 l0 x5_1).f2) == ((rd_T63 l1 x5_1).f2))))) = true
   ·rw [if_pos c7] at H
    have c7b0 : (!(((rd_T63 l0 x5_1).f0) == ((rd_T63 l1 x5_1).f0)) || (!(((rd_T63 l0 x5_1).f1) == ((rd_T63 l1 x5_1).f1)) || (!(((rd_T63 l0 x5_1).f2) == ((rd_T63 l1 x5_1).f2))))) = true := c7
    clear c7
    obtain rfl := Option.some.inj H
    have p669 : 0 ≤ (x5_1 : Int) := of_decide_eq_true za
    have q669 : x5_1 < (l0.length : Int) := of_decide_eq_true za
    obtain ⟨ad669, e669, hx669_0, hx669_1, hx669_2⟩ := at_T63 HR0.out x5_1 p669 q669
    cases e669
    replace p669 := eq_true p669
    replace q669 := eq_true q669
    have p670 : 0 ≤ (x5_1 : Int) := of_decide_eq_true za
    have q670 : x5_1 < (l1.length : Int) := of_decide_eq_true za
    obtain ⟨ad670, e670, hx670_0, hx670_1, hx670_2⟩ := at_T63 HR1.out x5_1 p670 q670
    cases e670
    replace p670 := eq_true p670
    replace q670 := eq_true q670
    go_wp2
    repeat (go_quiet (fail); try go_wp2)
    go_ret
    exact ⟨by first | rfl | (simp; done) | (simp [*]; done), by repeat (first | exact Drawn0.refl _ | apply Drawn0.step)⟩
   rw [if_neg c7] at H
   have c7b0 : (!(((rd_T63 l0 x5_1).f0) == ((rd_T63 l1 x5_1).f0)) || (!(((rd_T63 l0 x5_1).f1) == ((rd_T63 l1 x5_1).f1)) || (!(((rd_T63 l0 x5_1).f2) == ((rd_T63 l1 x5_1).f2))))) = false := by simpa using c7
   clear c7
   have H' := aM H
   clear H
   have p669 : 0 ≤ (x5_1 : Int) := of_decide_eq_true za
   have q669 : x5_1 < (l0.length : Int) := of_decide_eq_true za
   obtain ⟨ad669, e669, hx669_0, hx669_1, hx669_2⟩ := at_T63 HR0.out x5_1 p669 q669
   cases e669
   replace p669 := eq_true p669
   replace q669 := eq_true q669
   have p670 : 0 ≤ (x5_1 : Int) := of_decide_eq_true za
   have q670 : x5_1 < (l1.length : Int) := of_decide_eq_true za
   obtain ⟨ad670, e670, hx670_0, hx670_1, hx670_2⟩ := at_T63 HR1.out x5_1 p670 q670
   cases e670
   replace p670 := eq_true p670
   replace q670 := eq_true q670
   go_wp2
   repeat (go_quiet (fail); try go_wp2)
   go_roundg k1
   case measure => have := HK1.out; omega
   case rel => exact ⟨(wrap64 (x5_1 + 1)), zr, H', ⟨by have := HK1.out; omega⟩, by repeat (first | exact Drawn0.refl _ | apply Drawn0.step)⟩
mutual
def impl_FaceCount.l0 : Nat → List (S63) → Int → List (S63) → Int → Int → Option (Int × Int)
 | 0, _, _, _, _, _ => none
 | k + 1, x0, x4, x12, x13, x14 => if x14 < x13 then (if 0 ≤ x14 then (if x14 < (x12.length : Int) then ((impl_cubesAround.f ((rd_T63 x12 x14).f0) ((rd_T63 x12 x14).f1) ((rd_T63 x12 x14).f2)).bind fun t674 => (impl_FaceCount.l1 k x0 x4 x12 x13 x14 t674 (t674.length : Int) 0)) else (none)) else (none)) else (some (x4, 0))
def impl_FaceCount.l1 : Nat → List (S63) → Int → List (S63) → Int → Int → List (S63) → Int → Int → Option (Int × Int)
 | 0, _, _, _, _, _, _, _, _ => none
 | k + 1, x0, x4, x12, x13, x14, x19, x20, x21 => if x21 < x20 then (if 0 ≤ x21 then (if x21 < (x19.length : Int) then ((impl_Cube_51.f k x0 ((rd_T63 x19 x21).f0) ((rd_T63 x19 x21).f1) ((rd_T63 x19 x21).f2)).bind fun t679 => (if t679 = true then (impl_FaceCount.l1 k x0 x4 x12 x13 x14 x19 x20 (wrap64 (x21 + 1))) else (impl_FaceCount.l1 k x0 (wrap64 (x4 + 1)) x12 x13 x14 x19 x20 (wrap64 (x21 + 1))))) else (none)) else (none)) else (impl_FaceCount.l0 k x0 x4 x12 x13 (wrap64 (x14 + 1)))
end
def impl_FaceCount.f (k : Nat) (l0 : List (S63)) : Option (Int × Int) := (impl_isSolid.f k l0).bind fun t671 => (if t671 = true then (impl_FaceCount.l0 k l0 0 l0 (l0.length : Int) 0) else (some (0, 1)))
theorem impl_FaceCount.calls (k : Nat) (A0 : Option Addr) (c0 : Nat) (l0 : List (S63)) (r1 : Int) (r2 : Int) (w : World) (hr0 : Kd.C k63 w A0 l0.length l0) (hc0 : l0.length ≤ c0) (h : impl_FaceCount.f k l0 = some (r1, r2)) :
  Calls Try.prog 25 #[.slice A0 l0.length c0] w fun e w' => e = .returned (.tuple #[.int .i64 r1, .int .i64 r2]) ∧ Below w.heap.size w w' := by
 have hu63 := Try.underlying63
 have HR0 := aM hr0
 have HC0 := aM hc0
 clear hr0 hc0
 have HB := aM (Below.refl w.heap.size w)
 have H : ((impl_isSolid.f k l0).bind fun t671 => (if t671 = true then (impl_FaceCount.l0 k l0 0 l0 (l0.length : Int) 0) else (some (0, 1)))) = some (r1, r2) := h
 clear h
 replace H := Option.bind_eq_some_iff.mp H
 obtain ⟨t671, A20, H⟩ := H
 replace H : (if t671 = true then (impl_FaceCount.l0 k l0 0 l0 (l0.length : Int) 0) else (some (0, 1))) = some (r1, r2) := H
 have A2 := aM A20
 clear A20
 by_cases c3 : t671 = true
 rotate_left
 ·replace c3 := Bool.eq_false_iff.mpr c3
  subst c3
  have H1 : (some (0, 1)) = some (r1, r2) := by rw [if_neg (show ¬ (false = true) by decide)] at H; exact H
  clear H
  have H := H1
  clear H1
  simp only [Option.some.injEq, Prod.mk.injEq] at H
  obtain ⟨rfl, rfl⟩ := H
  go_enter Try.func25, Try.ntmps25
  go_wp2_with (first | ((with_reducible refine gate_callee (f := 39) rfl ?_); refine goesL_ (some 10) rfl rfl Try.func39 (by kernel_rfl) rfl #[.slice A0 l0.length c0] rfl zm ?_; (with_reducible refine (impl_isSolid.calls k _ _ l0 false _ ?side1 ?side2 A2.out).mono ?_); (case side1 => repeat (first | exact HR0.out | (with_reducible refine Kd.C_alloc ?_ _) | (with_reducible refine Kd.C_drewN ?_ _) | (with_reducible refine Kd.C_drew ?_))); (case side2 => exact HC0.out); rintro e w26 ⟨rfl, hb⟩; refine ⟨_, rfl, ?_⟩; have n0_ := aM (below_step zb hb); clear HB; have HB := n0_; clear n0_; (try clear hb); (try clear hb2); (try clear hk); (try clear hi)))
  go_ret2
  exact ⟨zw, zb⟩
 subst c3
 have H1 : (impl_FaceCount.l0 k l0 0 l0 (l0.length : Int) 0) = some (r1, r2) := by rw [if_pos rfl] at H; exact H
 clear H
 have H := H1
 clear H1
 have H' := aM H
 clear H
 go_enter Try.func25, Try.ntmps25
 go_wp2_with (first | ((with_reducible refine gate_callee (f := 39) rfl ?_); refine goesL_ (some 10) rfl rfl Try.func39 (by kernel_rfl) rfl #[.slice A0 l0.length c0] rfl zm ?_; (with_reducible refine (impl_isSolid.calls k _ _ l0 true _ ?side1 ?side2 A2.out).mono ?_); (case side1 => repeat (first | exact HR0.out | (with_reducible refine Kd.C_alloc ?_ _) | (with_reducible refine Kd.C_drewN ?_ _) | (with_reducible refine Kd.C_drew ?_))); (case side2 => exact HC0.out); rintro e w4 ⟨rfl, hb⟩; refine ⟨_, rfl, ?_⟩; have n0_ := aM (below_step zb hb); clear HB; have HB := n0_; clear n0_; (try clear hb); (try clear hb2); (try clear hk); (try clear hi)))
 go_loopg [4, 14] k (fun kq v4 v14 w' => ∃ (x4_1 : Int) (x14_1 : Int), v4 = .int .i64 x4_1 ∧ v14 = .int .i64 x14_1 ∧ Aside0 (impl_FaceCount.l0 kq l0 x4_1 l0 (l0.length : Int) x14_1 = some (r1, r2)) ∧ Aside0 (kq ≤ k) ∧ Aside0 (Below w.heap.size w w'))
 case atStart => exact ⟨(0), (0), zr, zr, H', ⟨Nat.le_refl _⟩, ⟨zb⟩⟩
 case round =>
  clear H'
  try clear c2
  try clear p2
  try clear c3
  obtain ⟨x4_1, x14_1, rfl, rfl, HA, HK1, HB⟩ := hrel
  cases gk with
  | zero => exact absurd HA.out (by simp [impl_FaceCount.l0])
  | succ k1 =>
   have H := HA.out
   clear HA
   simp only [impl_FaceCount.l0] at H
   by_cases c5 : x14_1 < (l0.length : Int)
   rotate_left
   ·rw [if_neg c5] at H
    have c5b0 : decide (x14_1 < (l0.length : Int)) = false := decide_eq_false c5
    clear c5
    simp only [Option.some.injEq, Prod.mk.injEq] at H
    obtain ⟨rfl, rfl⟩ := H
    go_wp2
    go_ret2
    exact ⟨zw, zb⟩
   rw [if_pos c5] at H
   have c5b0 : decide (x14_1 < (l0.length : Int)) = true := decide_eq_true c5
   clear c5
   by_cases c6 : 0 ≤ x14_1
   rotate_left
   ·rw [if_neg c6] at H
    exact absurd H (by simp)
   rw [if_pos c6] at H
   have c6b0 : decide (0 ≤ x14_1) = true := decide_eq_true c6
   clear c6
   by_cases c7 : x14_1 < (l0.length : Int)
   rotate_left
   ·rw [if_neg c7] at H
    exact absurd H (by simp)
   rw [if_pos c7] at H
   have c7b0 : decide (x14_1 < (l0.length : Int)) = true := decide_eq_true c7
   clear c7
   replace H := Option.bind_eq_some_iff.mp H
   obtain ⟨t674, A80, H⟩ := H
   replace H : (impl_FaceCount.l1 k1 l0 x4_1 l0 (l0.length : Int) x14_1 t674 (t674.length : Int) 0) = some (r1, r2) := H
   have A8 := aM A80
   clear A80
   have H' := aM H
   clear H
   have p672 : 0 ≤ (x14_1 : Int) := of_decide_eq_true za
   have q672 : x14_1 < (l0.length : Int) := of_decide_eq_true za
   obtain ⟨ad672, e672, hx672_0, hx672_1, hx672_2⟩ := at_T63 HR0.out x14_1 p672 q672
   cases e672
   replace hx672_0 := zk HB.out hx672_0
   replace hx672_1 := zk HB.out hx672_1
   replace hx672_2 := zk HB.out hx672_2
   replace p672 := eq_true p672
   replace q672 := eq_true q672
   go_wp2_with (first | ((with_reducible refine gate_dst (N := 6) rfl ?_); refine zx 6 #[.int .i64 0, .int .i64 0, .int .i64 0] 63 ?_; intro gb673 hg w9 hbox hb; have n0_ := aM (below_step zb hb); have n1_ := aM (hbox); have n2_ := aM ((ze : w.heap.size ≤ gb673)); have n3_ := aM ((ze : w.heap.size ≤ gb673)); clear HB; have HB := n0_; have BK673 := n1_; have GW673 := n2_; have GE673 := n3_; clear n0_ n1_ n2_ n3_ hb hbox hg; have hcz10_0 : w9.cell? ⟨gb673, 0, none⟩ = some (.int .i64 0) := (blk_cell BK673.out 0).trans rfl; have hcz10_1 : w9.cell? ⟨gb673, 1, none⟩ = some (.int .i64 0) := (blk_cell BK673.out 1).trans rfl; have hcz10_2 : w9.cell? ⟨gb673, 2, none⟩ = some (.int .i64 0) := (blk_cell BK673.out 2).trans rfl; have hfz10_0 := blk_frozen BK673.out 0; have hfz10_1 := blk_frozen BK673.out 1; have hfz10_2 := blk_frozen BK673.out 2) | ((with_reducible refine gate_callee (f := 50) rfl ?_); refine goesL_ (some 19) rfl rfl Try.func50 (by kernel_rfl) rfl #[.agg #[.int .i64 ((rd_T63 l0 x14_1).f0), .int .i64 ((rd_T63 l0 x14_1).f1), .int .i64 ((rd_T63 l0 x14_1).f2)]] rfl zm ?_; (with_reducible refine (impl_cubesAround.calls ((rd_T63 l0 x14_1).f0) ((rd_T63 l0 x14_1).f1) ((rd_T63 l0 x14_1).f2) t674 _ A8.out).mono ?_); rintro e w11 ⟨v675, rfl, ho0, hb⟩; refine ⟨_, rfl, ?_⟩; have n0_ := aM (Kd.R_lower (Kd.R_newB ho0 (g := gb673) (o := .cells #[.int .i64 ((rd_T63 l0 x14_1).f0), .int .i64 ((rd_T63 l0 x14_1).f1), .int .i64 ((rd_T63 l0 x14_1).f2)] 63 (0, 0)) (by (with_reducible repeat (first | refine blk_drewN ?_ _ | refine blk_drew ?_ | refine blk_alloc ?_ _)); refine blk_put (cs := #[.int .i64 ((rd_T63 l0 x14_1).f0), .int .i64 ((rd_T63 l0 x14_1).f1), .int .i64 0]) ?_ 2 _ rfl; (with_reducible repeat (first | refine blk_drewN ?_ _ | refine blk_drew ?_ | refine blk_alloc ?_ _)); refine blk_put (cs := #[.int .i64 ((rd_T63 l0 x14_1).f0), .int .i64 0, .int .i64 0]) ?_ 1 _ rfl; (with_reducible repeat (first | refine blk_drewN ?_ _ | refine blk_drew ?_ | refine blk_alloc ?_ _)); refine blk_put (cs := #[.int .i64 0, .int .i64 0, .int .i64 0]) ?_ 0 _ rfl; (with_reducible repeat (first | refine blk_drewN ?_ _ | refine blk_drew ?_ | refine blk_alloc ?_ _)); exact BK673.out)) (below_size (zs GE673.out))); have n1_ := aM (blk_below (g := gb673) (o := .cells #[.int .i64 ((rd_T63 l0 x14_1).f0), .int .i64 ((rd_T63 l0 x14_1).f1), .int .i64 ((rd_T63 l0 x14_1).f2)] 63 (0, 0)) (by (with_reducible repeat (first | refine blk_drewN ?_ _ | refine blk_drew ?_ | refine blk_alloc ?_ _)); refine blk_put (cs := #[.int .i64 ((rd_T63 l0 x14_1).f0), .int .i64 ((rd_T63 l0 x14_1).f1), .int .i64 0]) ?_ 2 _ rfl; (with_reducible repeat (first | refine blk_drewN ?_ _ | refine blk_drew ?_ | refine blk_alloc ?_ _)); refine blk_put (cs := #[.int .i64 ((rd_T63 l0 x14_1).f0), .int .i64 0, .int .i64 0]) ?_ 1 _ rfl; (with_reducible repeat (first | refine blk_drewN ?_ _ | refine blk_drew ?_ | refine blk_alloc ?_ _)); refine blk_put (cs := #[.int .i64 0, .int .i64 0, .int .i64 0]) ?_ 0 _ rfl; (with_reducible repeat (first | refine blk_drewN ?_ _ | refine blk_drew ?_ | refine blk_alloc ?_ _)); exact BK673.out) hb); have n2_ := aM (below_step (zs GE673.out) hb); clear BK673 HB; have HO676 := n0_; have BK673 := n1_; have HB := n2_; clear n0_ n1_ n2_; (try clear hb); (try clear hb2); (try clear hk); (try clear hi); (try clear ho0); obtain ⟨Ao12, co12, eo12⟩ := Kd.R_slice HO676.out; subst eo12))
   go_loopg [4, 21] k1 (fun kq v4 v21 w' => ∃ (x4_2 : Int) (x21_2 : Int), v4 = .int .i64 x4_2 ∧ v21 = .int .i64 x21_2 ∧ Aside0 (impl_FaceCount.l1 kq l0 x4_2 l0 (l0.length : Int) x14_1 t674 (t674.length : Int) x21_2 = some (r1, r2)) ∧ Aside0 (kq ≤ k1) ∧ Aside0 (Kd.R k63 63 w' w.heap.size (fun k_ => k_ ≠ gb673) (.slice Ao12 t674.length co12) t674) ∧ Aside0 (w'.heap[gb673]? = some (.cells #[.int .i64 ((rd_T63 l0 x14_1).f0), .int .i64 ((rd_T63 l0 x14_1).f1), .int .i64 ((rd_T63 l0 x14_1).f2)] 63 (0, 0))) ∧ Aside0 (Below w.heap.size w w'))
   case atStart => exact ⟨(x4_1), (0), zr, zr, H', ⟨Nat.le_refl _⟩, ⟨zd0 HO676.out⟩, ⟨mB_ BK673.out⟩, ⟨zs GE673.out⟩⟩
   case round =>
    clear H'
    try clear c2
    try clear p2
    try clear c3
    try clear c5
    try clear c5b0
    try clear c6
    try clear c6b0
    try clear p6
    try clear q6
    try clear hx6
    try clear c7
    try clear c7b0
    try clear hcz10_0
    try clear hcz10_1
    try clear hcz10_2
    try clear hfz10_0
    try clear hfz10_1
    try clear hfz10_2
    try clear hx672_0
    try clear hx672_1
    try clear hx672_2
    try clear p2
    try clear p672
    try clear q672
    obtain ⟨x4_2, x21_2, rfl, rfl, HA, HK2, HO_19, BK673, HB⟩ := hrel
    cases gk with
    | zero => exact absurd HA.out (by simp [impl_FaceCount.l1])
    | succ k2 =>
     have H := HA.out
     clear HA
     simp only [impl_FaceCount.l1] at H
     by_cases c13 : x21_2 < (t674.length : Int)
     rotate_left
     ·rw [if_neg c13] at H
      have c13b0 : decide (x21_2 < (t674.length : Int)) = false := decide_eq_false c13
      clear c13
      have H' := aM H
      clear H
      go_wp2
      go_roundg k2
      case measure => have := HK1.out; have := HK2.out; omega
      case rel => exact ⟨(x4_2), (wrap64 (x14_1 + 1)), zr, zr, H', ⟨by have := HK1.out; have := HK2.out; omega⟩, ⟨zs GE673.out⟩⟩
     rw [if_pos c13] at H
     have c13b0 : decide (x21_2 < (t674.length : Int)) = true := decide_eq_true c13
     clear c13
     by_cases c14 : 0 ≤ x21_2
     rotate_left
     ·rw [if_neg c14] at H
      exact absurd H (by simp)
     rw [if_pos c14] at H
     have c14b0 : decide (0 ≤ x21_2) = true := decide_eq_true c14
     clear c14
     by_cases c15 : x21_2 < (t674.length : Int)
     rotate_left
     ·rw [if_neg c15] at H
      exact absurd H (by simp)
     rw [if_pos c15] at H
     have c15b0 : decide (x21_2 < (t674.length : Int)) = true := decide_eq_true c15
     clear c15
     replace H := Option.bind_eq_some_iff.mp H
     obtain ⟨t679, A160, H⟩ := H
     replace H : (if t679 = true then (impl_FaceCount.l1 k2 l0 x4_2 l0 (l0.length : Int) x14_1 t674 (t674.length : Int) (wrap64 (x21_2 + 1))) else (impl_FaceCount.l1 k2 l0 (wrap64 (x4_2 + 1)) l0 (l0.length : Int) x14_1 t674 (t674.length : Int) (wrap64 (x21_2 + 1)))) = some (r1, r2) := H
     have A16 := aM A160
     clear A160
     by_cases c17 : t679 = true
     ·subst c17
      have H1 : (impl_FaceCount.l1 k2 l0 x4_2 l0 (l0.length : Int) x14_1 t674 (t674.length : Int) (wrap64 (x21_2 + 1))) = some (r1, r2) := by rw [if_pos rfl] at H; exact H
      clear H
      have H := H1
      clear H1
      have H' := aM H
      clear H
      have p677 : 0 ≤ (x21_2 : Int) := of_decide_eq_true za
      have q677 : x21_2 < (t674.length : Int) := of_decide_eq_true za
      obtain ⟨ad677, e677, hx677_0, hx677_1, hx677_2⟩ := at_T63 (Kd.R_reads' HO_19.out).2.2 x21_2 p677 q677
      cases e677
      replace p677 := eq_true p677
      replace q677 := eq_true q677
      go_wp2_with (first | ((with_reducible refine gate_dst (N := 8) rfl ?_); refine zx 8 #[.int .i64 0, .int .i64 0, .int .i64 0] 63 ?_; intro gb678 hg w18 hbox hb; have n0_ := aM (Kd.R_below (Kd.R_elderB (mR_ HO_19.out) gb678 (Nat.le_of_eq hg.symm)) hb); have n1_ := aM (blk_below (g := gb673) (o := .cells #[.int .i64 ((rd_T63 l0 x14_1).f0), .int .i64 ((rd_T63 l0 x14_1).f1), .int .i64 ((rd_T63 l0 x14_1).f2)] 63 (0, 0)) (mB_ BK673.out) hb); have n2_ := aM (below_step (zs GE673.out) hb); have n3_ := aM (hbox); have n4_ := aM ((zf GE673.out : w.heap.size ≤ gb678)); have n5_ := aM ((zf GE673.out : w.heap.size ≤ gb678)); have n6_ := aM ((zl BK673.out : gb673 ≠ gb678)); have n7_ := aM ((zn BK673.out : gb678 ≠ gb673)); clear HO_19 BK673 HB; have HO_19 := n0_; have BK673 := n1_; have HB := n2_; have BK678 := n3_; have GW678 := n4_; have GE678 := n5_; have NB673_678 := n6_; have NB678_673 := n7_; clear n0_ n1_ n2_ n3_ n4_ n5_ n6_ n7_ hb hbox hg; have hnb19 := NB678_673.out; have hnc19 := NB673_678.out; have hcz20_0 : w18.cell? ⟨gb678, 0, none⟩ = some (.int .i64 0) := (blk_cell BK678.out 0).trans rfl; have hcz20_1 : w18.cell? ⟨gb678, 1, none⟩ = some (.int .i64 0) := (blk_cell BK678.out 1).trans rfl; have hcz20_2 : w18.cell? ⟨gb678, 2, none⟩ = some (.int .i64 0) := (blk_cell BK678.out 2).trans rfl; have hfz20_0 := blk_frozen BK678.out 0; have hfz20_1 := blk_frozen BK678.out 1; have hfz20_2 := blk_frozen BK678.out 2) | ((with_reducible refine gate_callee (f := 51) rfl ?_); refine goesL_ (some 27) rfl rfl Try.func51 (by kernel_rfl) rfl #[.slice (some ad672) l0.length c0, .agg #[.int .i64 ((rd_T63 t674 x21_2).f0), .int .i64 ((rd_T63 t674 x21_2).f1), .int .i64 ((rd_T63 t674 x21_2).f2)]] rfl zm ?_; (with_reducible refine (impl_Cube_51.calls k2 _ _ l0 ((rd_T63 t674 x21_2).f0) ((rd_T63 t674 x21_2).f1) ((rd_T63 t674 x21_2).f2) true _ ?side1 ?side2 A16.out).mono ?_); (case side1 => exact Kd.C_below HR0.out (zt GE673.out GE678.out)); (case side2 => exact HC0.out); rintro e w21 ⟨rfl, hb⟩; refine ⟨_, rfl, ?_⟩; have n0_ := aM (Kd.R_below (by (with_reducible repeat (first | apply Kd.R_alloc | apply Kd.R_drewN | apply Kd.R_drew)); exact (Kd.R_mono (Kd.R_far (p := ⟨gb678, 2, none⟩) (Kd.R_far (p := ⟨gb678, 1, none⟩) (Kd.R_far (p := ⟨gb678, 0, none⟩) (Kd.R_mono HO_19.out (fun k_ hk => (⟨hk, hk.2⟩ : _ ∧ k_ ≠ gb678))) (fun _ hk => hk.2) (.int .i64 ((rd_T63 t674 x21_2).f0))) (fun _ hk => hk.2) (.int .i64 ((rd_T63 t674 x21_2).f1))) (fun _ hk => hk.2) (.int .i64 ((rd_T63 t674 x21_2).f2))) (fun _ h_ => h_.1))) hb); have n1_ := aM (blk_below (g := gb673) (o := .cells #[.int .i64 ((rd_T63 l0 x14_1).f0), .int .i64 ((rd_T63 l0 x14_1).f1), .int .i64 ((rd_T63 l0 x14_1).f2)] 63 (0, 0)) (by (with_reducible repeat (first | refine blk_drewN ?_ _ | refine blk_drew ?_ | refine blk_alloc ?_ _)); refine blk_far ?_ NB673_678.out _; (with_reducible repeat (first | refine blk_drewN ?_ _ | refine blk_drew ?_ | refine blk_alloc ?_ _)); refine blk_far ?_ NB673_678.out _; (with_reducible repeat (first | refine blk_drewN ?_ _ | refine blk_drew ?_ | refine blk_alloc ?_ _)); refine blk_far ?_ NB673_678.out _; (with_reducible repeat (first | refine blk_drewN ?_ _ | refine blk_drew ?_ | refine blk_alloc ?_ _)); exact BK673.out) hb); have n2_ := aM (blk_below (g := gb678) (o := .cells #[.int .i64 ((rd_T63 t674 x21_2).f0), .int .i64 ((rd_T63 t674 x21_2).f1), .int .i64 ((rd_T63 t674 x21_2).f2)] 63 (0, 0)) (by (with_reducible repeat (first | refine blk_drewN ?_ _ | refine blk_drew ?_ | refine blk_alloc ?_ _)); refine blk_put (cs := #[.int .i64 ((rd_T63 t674 x21_2).f0), .int .i64 ((rd_T63 t674 x21_2).f1), .int .i64 0]) ?_ 2 _ rfl; (with_reducible repeat (first | refine blk_drewN ?_ _ | refine blk_drew ?_ | refine blk_alloc ?_ _)); refine blk_put (cs := #[.int .i64 ((rd_T63 t674 x21_2).f0), .int .i64 0, .int .i64 0]) ?_ 1 _ rfl; (with_reducible repeat (first | refine blk_drewN ?_ _ | refine blk_drew ?_ | refine blk_alloc ?_ _)); refine blk_put (cs := #[.int .i64 0, .int .i64 0, .int .i64 0]) ?_ 0 _ rfl; (with_reducible repeat (first | refine blk_drewN ?_ _ | refine blk_drew ?_ | refine blk_alloc ?_ _)); exact BK678.out) hb); have n3_ := aM (below_step (zt GE673.out GE678.out) hb); clear HO_19 BK673 BK678 HB; have HO_19 := n0_; have BK673 := n1_; have BK678 := n2_; have HB := n3_; clear n0_ n1_ n2_ n3_; (try clear hb); (try clear hb2); (try clear hk); (try clear hi)))
      go_roundg k2
      case measure => have := HK1.out; have := HK2.out; omega
      case rel => exact ⟨(x4_2), (wrap64 (x21_2 + 1)), zr, zr, H', ⟨by have := HK1.out; have := HK2.out; omega⟩, ⟨zd6 HO_19.out⟩, ⟨mB_ BK673.out⟩, ⟨zt GE673.out GE678.out⟩⟩
     replace c17 := Bool.eq_false_iff.mpr c17
     subst c17
     have H1 : (impl_FaceCount.l1 k2 l0 (wrap64 (x4_2 + 1)) l0 (l0.length : Int) x14_1 t674 (t674.length : Int) (wrap64 (x21_2 + 1))) = some (r1, r2) := by rw [if_neg (show ¬ (false = true) by decide)] at H; exact H
     clear H
     have H := H1
     clear H1
     have H' := aM H
     clear H
     have p677 : 0 ≤ (x21_2 : Int) := of_decide_eq_true za
     have q677 : x21_2 < (t674.length : Int) := of_decide_eq_true za
     obtain ⟨ad677, e677, hx677_0, hx677_1, hx677_2⟩ := at_T63 (Kd.R_reads' HO_19.out).2.2 x21_2 p677 q677
     cases e677
     replace p677 := eq_true p677
     replace q677 := eq_true q677
     go_wp2_with (first | ((with_reducible refine gate_dst (N := 8) rfl ?_); refine zx 8 #[.int .i64 0, .int .i64 0, .int .i64 0] 63 ?_; intro gb678 hg w22 hbox hb; have n0_ := aM (Kd.R_below (Kd.R_elderB (mR_ HO_19.out) gb678 (Nat.le_of_eq hg.symm)) hb); have n1_ := aM (blk_below (g := gb673) (o := .cells #[.int .i64 ((rd_T63 l0 x14_1).f0), .int .i64 ((rd_T63 l0 x14_1).f1), .int .i64 ((rd_T63 l0 x14_1).f2)] 63 (0, 0)) (mB_ BK673.out) hb); have n2_ := aM (below_step (zs GE673.out) hb); have n3_ := aM (hbox); have n4_ := aM ((zf GE673.out : w.heap.size ≤ gb678)); have n5_ := aM ((zf GE673.out : w.heap.size ≤ gb678)); have n6_ := aM ((zl BK673.out : gb673 ≠ gb678)); have n7_ := aM ((zn BK673.out : gb678 ≠ gb673)); clear HO_19 BK673 HB; have HO_19 := n0_; have BK673 := n1_; have HB := n2_; have BK678 := n3_; have GW678 := n4_; have GE678 := n5_; have NB673_678 := n6_; have NB678_673 := n7_; clear n0_ n1_ n2_ n3_ n4_ n5_ n6_ n7_ hb hbox hg; have hnb23 := NB678_673.out; have hnc23 := NB673_678.out; have hcz24_0 : w22.cell? ⟨gb678, 0, none⟩ = some (.int .i64 0) := (blk_cell BK678.out 0).trans rfl; have hcz24_1 : w22.cell? ⟨gb678, 1, none⟩ = some (.int .i64 0) := (blk_cell BK678.out 1).trans rfl; have hcz24_2 : w22.cell? ⟨gb678, 2, none⟩ = some (.int .i64 0) := (blk_cell BK678.out 2).trans rfl; have hfz24_0 := blk_frozen BK678.out 0; have hfz24_1 := blk_frozen BK678.out 1; have hfz24_2 := blk_frozen BK678.out 2) | ((with_reducible refine gate_callee (f := 51) rfl ?_); refine goesL_ (some 27) rfl rfl Try.func51 (by kernel_rfl) rfl #[.slice (some ad672) l0.length c0, .agg #[.int .i64 ((rd_T63 t674 x21_2).f0), .int .i64 ((rd_T63 t674 x21_2).f1), .int .i64 ((rd_T63 t674 x21_2).f2)]] rfl zm ?_; (with_reducible refine (impl_Cube_51.calls k2 _ _ l0 ((rd_T63 t674 x21_2).f0) ((rd_T63 t674 x21_2).f1) ((rd_T63 t674 x21_2).f2) false _ ?side1 ?side2 A16.out).mono ?_); (case side1 => exact Kd.C_below HR0.out (zt GE673.out GE678.out)); (case side2 => exact HC0.out); rintro e w25 ⟨rfl, hb⟩; refine ⟨_, rfl, ?_⟩; have n0_ := aM (Kd.R_below (by (with_reducible repeat (first | apply Kd.R_alloc | apply Kd.R_drewN | apply Kd.R_drew)); exact (Kd.R_mono (Kd.R_far (p := ⟨gb678, 2, none⟩) (Kd.R_far (p := ⟨gb678, 1, none⟩) (Kd.R_far (p := ⟨gb678, 0, none⟩) (Kd.R_mono HO_19.out (fun k_ hk => (⟨hk, hk.2⟩ : _ ∧ k_ ≠ gb678))) (fun _ hk => hk.2) (.int .i64 ((rd_T63 t674 x21_2).f0))) (fun _ hk => hk.2) (.int .i64 ((rd_T63 t674 x21_2).f1))) (fun _ hk => hk.2) (.int .i64 ((rd_T63 t674 x21_2).f2))) (fun _ h_ => h_.1))) hb); have n1_ := aM (blk_below (g := gb673) (o := .cells #[.int .i64 ((rd_T63 l0 x14_1).f0), .int .i64 ((rd_T63 l0 x14_1).f1), .int .i64 ((rd_T63 l0 x14_1).f2)] 63 (0, 0)) (by (with_reducible repeat (first | refine blk_drewN ?_ _ | refine blk_drew ?_ | refine blk_alloc ?_ _)); refine blk_far ?_ NB673_678.out _; (with_reducible repeat (first | refine blk_drewN ?_ _ | refine blk_drew ?_ | refine blk_alloc ?_ _)); refine blk_far ?_ NB673_678.out _; (with_reducible repeat (first | refine blk_drewN ?_ _ | refine blk_drew ?_ | refine blk_alloc ?_ _)); refine blk_far ?_ NB673_678.out _; (with_reducible repeat (first | refine blk_drewN ?_ _ | refine blk_drew ?_ | refine blk_alloc ?_ _)); exact BK673.out) hb); have n2_ := aM (blk_below (g := gb678) (o := .cells #[.int .i64 ((rd_T63 t674 x21_2).f0), .int .i64 ((rd_T63 t674 x21_2).f1), .int .i64 ((rd_T63 t674 x21_2).f2)] 63 (0, 0)) (by (with_reducible repeat (first | refine blk_drewN ?_ _ | refine blk_drew ?_ | refine blk_alloc ?_ _)); refine blk_put (cs := #[.int .i64 ((rd_T63 t674 x21_2).f0), .int .i64 ((rd_T63 t674 x21_2).f1), .int .i64 0]) ?_ 2 _ rfl; (with_reducible repeat (first | refine blk_drewN ?_ _ | refine blk_drew ?_ | refine blk_alloc ?_ _)); refine blk_put (cs := #[.int .i64 ((rd_T63 t674 x21_2).f0), .int .i64 0, .int .i64 0]) ?_ 1 _ rfl; (with_reducible repeat (first | refine blk_drewN ?_ _ | refine blk_drew ?_ | refine blk_alloc ?_ _)); refine blk_put (cs := #[.int .i64 0, .int .i64 0, .int .i64 0]) ?_ 0 _ rfl; (with_reducible repeat (first | refine blk_drewN ?_ _ | refine blk_drew ?_ | refine blk_alloc ?_ _)); exact BK678.out) hb); have n3_ := aM (below_step (zt GE673.out GE678.out) hb); clear HO_19 BK673 BK678 HB; have HO_19 := n0_; have BK673 := n1_; have BK678 := n2_; have HB := n3_; clear n0_ n1_ n2_ n3_; (try clear hb); (try clear hb2); (try clear hk); (try clear hi)))
     go_roundg k2
     case measure => have := HK1.out; have := HK2.out; omega
     case rel => exact ⟨(wrap64 (x4_2 + 1)), (wrap64 (x21_2 + 1)), zr, zr, H', ⟨by have := HK1.out; have := HK2.out; omega⟩, ⟨zd6 HO_19.out⟩, ⟨mB_ BK673.out⟩, ⟨zt GE673.out GE678.out⟩⟩
end Go.Proofs.Ytonldmalaajkgaa.F
end
section
namespace Go.Proofs.Ytonldmalaajkgaa.F
open Go.RowKit Go.Proofs.YtonldmalaajkgaaW.PrintWords Go.Proofs.YtonldmalaajkgaaW.PrintLast Go.Proofs.YtonldmalaajkgaaW.PrintMore
attribute [local go_sem] max2_int min2_int max_two min_two max_three min_three max_four min_four
set_option linter.unusedVariables false
set_option linter.unusedSimpArgs false
def laws_FnSolids.j0 : Nat → List (S63) → List (S63) → Int → Bool → Bool → Option (Bool)
 | 0, _, _, _, _, _ => none
 | k + 1, x3, x5, x6, x16, x104 => if x104 = true then (some false) else (if x6 = 0 then ((impl_LeastForm.f k x3 true).bind fun bt711 => ((impl_LeastForm.f k x5 true).bind fun bt715 => ((impl_IsSolid.f k x5).bind fun bt719 => ((impl_FaceCount.f k x3).bind fun bt721 => ((impl_FaceCount.f k x5).bind fun bt723 => (if bt711.2 = 0 then (if bt715.2 = 0 then (if bt721.2 = 0 then (if bt723.2 = 0 then ((laws_likeCubes.f k bt711.1 bt715.1).bind fun t725 => (if t725 = true then (if bt719.1 = true then (if (bt719.2 == x16) = true then (some (bt721.1 == bt723.1)) else (some false)) else (some false)) else (some false))) else (some false)) else (some false)) else (some false)) else (some false))))))) else (some true))
def laws_FnSolids.f (k : Nat) (l0 : List Int) : Option (Bool) := (laws_big.f l0).bind fun t680 => (if t680 = true then (some true) else ((spec_DrawCubeForm.f k l0).bind fun bt681 => ((impl_CubeForm.f k bt681.1 bt681.2).bind fun bt685 => ((spec_CubeForm.f k bt681.1 bt681.2).bind fun bt689 => ((spec_DrawLeastForm.f k l0).bind fun bt693 => ((impl_LeastForm.f k bt693.1 bt693.2).bind fun bt697 => ((spec_LeastForm.f k bt693.1 bt693.2).bind fun bt701 => ((impl_IsSolid.f k bt681.1).bind fun bt705 => ((spec_IsSolid.f k bt681.1).bind fun bt707 => (if bt685.2 = bt689.2 then ((laws_likeCubes.f k bt685.1 bt689.1).bind fun t709 => (if t709 = true then (if bt697.2 = bt701.2 then ((laws_likeCubes.f k bt697.1 bt701.1).bind fun t710 => (if t710 = true then (if (bt705.1 != bt707.1) = true then (laws_FnSolids.j0 k bt681.1 bt685.1 bt685.2 bt705.2 true) else (laws_FnSolids.j0 k bt681.1 bt685.1 bt685.2 bt705.2 (bt705.2 != bt707.2))) else (laws_FnSolids.j0 k bt681.1 bt685.1 bt685.2 bt705.2 true))) else (laws_FnSolids.j0 k bt681.1 bt685.1 bt685.2 bt705.2 true)) else (laws_FnSolids.j0 k bt681.1 bt685.1 bt685.2 bt705.2 true))) else (laws_FnSolids.j0 k bt681.1 bt685.1 bt685.2 bt705.2 true)))))))))))
end Go.Proofs.Ytonldmalaajkgaa.F
end
