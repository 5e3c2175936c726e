/- The row of FnHexForms, with what it needs: text 4 of 11. -/
import Derived.Test.YtlnliahadgmbcaaKHF2
set_option maxHeartbeats 8000000
set_option maxRecDepth 100000
section
namespace Go.Proofs.Ytlnliahadgmbcaa.F
open Go.RowKit Go.Proofs.YtlnliahadgmbcaaW.PrintWords Go.Proofs.YtlnliahadgmbcaaW.PrintLast Go.Proofs.YtlnliahadgmbcaaW.PrintMore
attribute [local go_sem] max2_int min2_int max_two min_two max_three min_three max_four min_four
set_option linter.unusedVariables false
set_option linter.unusedSimpArgs false
theorem spec_l07Draw.calls (k : Nat) (g : Nat) (s0_0 : List Int) (s0_1 : Int) (s0_2 : Int) (a1 : Int) (r1 : List (S59)) (r2 : Int) (r3 : Int) (w0 w : World) (hI : IsS75 w0 w g s0_0 s0_1 s0_2) (hB : Below w0.heap.size w0 w) (h : spec_l07Draw.f k s0_0 s0_1 s0_2 a1 = some (r1, r2, r3)) :
  Calls Try.prog 61 #[.pointer (some ⟨g, 0, none⟩), .int .i64 a1] w fun e w' => ∃ v0_ : Value, e = .returned (v0_) ∧ Kd.R k59 59 w' w.heap.size (fun _ => True) v0_ r1 ∧ IsS75 w0 w' g s0_0 r2 r3 ∧ Below w0.heap.size w0 w' ∧ KeepBut w w' g none := by
 have hu59 := Try.underlying59
 have HI0 := aM hI
 have HK := aM (KeepBut.refl w g none)
 have HL := aM hB.size
 clear hI
 have HW0 := aM hB.size
 have HB := aM hB
 clear hB
 have H : ((spec_l01Next.f s0_0 s0_1 s0_2 2).bind fun bt152 => ((some (([(⟨wrap64 (1 + bt152.1), 0⟩ : S59)] : List (S59)) : List (S59))).bind fun y155 => (if 0 < (y155.length : Int) then ((spec_l01Next.f s0_0 bt152.2.1 bt152.2.2 6).bind fun bt160 => (spec_l07Draw.l0 k a1 (y155.set (0 : Int).toNat (⟨(rd_T59 y155 0).f0, (rd_T59 y155 0).f0⟩ : S59)) bt160.1 s0_0 bt160.2.1 bt160.2.2)) else (none)))) = some (r1, r2, r3) := h
 clear h
 replace H := Option.bind_eq_some_iff.mp H
 obtain ⟨⟨t152, t153, t154⟩, A30, H⟩ := H
 replace H : ((some (([(⟨wrap64 (1 + t152), 0⟩ : S59)] : List (S59)) : List (S59))).bind fun y155 => (if 0 < (y155.length : Int) then ((spec_l01Next.f s0_0 t153 t154 6).bind fun bt160 => (spec_l07Draw.l0 k a1 (y155.set (0 : Int).toNat (⟨(rd_T59 y155 0).f0, (rd_T59 y155 0).f0⟩ : S59)) bt160.1 s0_0 bt160.2.1 bt160.2.2)) else (none))) = some (r1, r2, r3) := H
 have A3 := aM A30
 clear A30
 obtain ⟨y155, hy155⟩ : ∃ y_ : List (S59), y_ = (([(⟨wrap64 (1 + t152), 0⟩ : S59)] : List (S59))) := ⟨_, rfl⟩
 replace H : (if 0 < (y155.length : Int) then ((spec_l01Next.f s0_0 t153 t154 6).bind fun bt160 => (spec_l07Draw.l0 k a1 (y155.set (0 : Int).toNat (⟨(rd_T59 y155 0).f0, (rd_T59 y155 0).f0⟩ : S59)) bt160.1 s0_0 bt160.2.1 bt160.2.2)) else (none)) = some (r1, r2, r3) := zy H hy155
 have Ny155 := aM hy155
 clear hy155
 by_cases c4 : 0 < (y155.length : Int)
 rotate_left
 ·rw [if_neg c4] at H
  exact absurd H (by simp)
 rw [if_pos c4] at H
 have c4b0 : decide (0 < (y155.length : Int)) = true := decide_eq_true c4
 have c4b1 : decide (0 < y155.length) = true := decide_eq_true (by omega)
 clear c4
 obtain ⟨y159, hy159⟩ : ∃ y_ : List (S59), y_ = (y155.set (0 : Int).toNat (⟨(rd_T59 y155 0).f0, (rd_T59 y155 0).f0⟩ : S59)) := ⟨_, rfl⟩
 replace H : ((spec_l01Next.f s0_0 t153 t154 6).bind fun bt160 => (spec_l07Draw.l0 k a1 y159 bt160.1 s0_0 bt160.2.1 bt160.2.2)) = some (r1, r2, r3) := zy H hy159
 have Ny159 := aM hy159
 clear hy159
 replace H := Option.bind_eq_some_iff.mp H
 obtain ⟨⟨t160, t161, t162⟩, A60, H⟩ := H
 replace H : (spec_l07Draw.l0 k a1 y159 t160 s0_0 t161 t162) = some (r1, r2, r3) := H
 have A6 := aM A60
 clear A60
 have H' := aM H
 clear H
 go_enter Try.func61, Try.ntmps61
 go_wp2_with (first | ((with_reducible refine gate_callee (f := 60) rfl ?_); refine goesL_ (some 11) rfl rfl Try.func60 (by kernel_rfl) rfl #[.pointer (some ⟨g, 0, none⟩), .int .i64 2] rfl zm ?_; (with_reducible refine (spec_l01Next.calls g s0_0 s0_1 s0_2 2 t152 t153 t154 w0 _ ?side1 ?side2 A3.out).mono ?_); (case side1 => exact zI75 HI0.out); (case side2 => exact zs (IsS75.ge HI0.out)); rintro e w7 ⟨rfl, hi, hb, hk⟩; refine ⟨_, rfl, ?_⟩; have n0_ := aM (KeepBut.trans (zK HK.out) hk (.inl rfl)); have n1_ := aM (hb); have n2_ := aM (hi); clear HK HB HI0; have HK := n0_; have HB := n1_; have HI0 := n2_; clear n0_ n1_ n2_; (try clear hb); (try clear hb2); (try clear hk); (try clear hi)) | ((with_reducible refine gate_dst (N := 14) rfl ?_); refine Kd.R_lit k59 _ 59 ?hg (N := 14) ?hd (xs := ([(⟨wrap64 (1 + t152), 0⟩ : S59)] : List (S59))) (inner := [.int .i64 (wrap64 (1 + t152)), .int .i64 0]) (ok := fun _ => True) (okp := fun _ => True) ?hr ?hp (fun _ hk => hk) trivial (Below.refl _ _) (Nat.le_refl _) (by simp) ?_; (case hd => rfl); (case hg => rfl); (case hr => first | (go_simp; done) | (go_simp; rfl)); (case hp => exact (Reps.c2 (show Kd.M k59 _ _ _ (⟨wrap64 (1 + t152), 0⟩ : S59) [.int .i64 (wrap64 (1 + t152)), .int .i64 0] from (k59_mkM _ _ _ (⟨wrap64 (1 + t152), 0⟩ : S59) )) (Reps.none _ _))); intro v156 w8 ho9 hb hg_ hnew_; clear hg_ hnew_; (first | rw [← Ny155.out] at ho9 | (simp only [Int.reduceToNat] at ho9; rw [← Ny155.out] at ho9)); have n0_ := aM (Kd.R_lower ho9 (keep_size (w := w) (g := g) (row := none) (zK HK.out))); have n1_ := aM (IsS75.below (zI75 HI0.out) hb); have n2_ := aM (KeepBut.trans (zK HK.out) (KeepBut.of_below hb g none) (.inl rfl)); have n3_ := aM (below_step (zs (IsS75.ge HI0.out)) hb); clear HI0 HK HB; have HO157 := n0_; have HI0 := n1_; have HK := n2_; have HB := n3_; clear n0_ n1_ n2_ n3_ hb ho9; obtain ⟨Ao10, co10, eo10⟩ := Kd.R_slice HO157.out; subst eo10; have p158 : 0 ≤ (0 : Int) := (by omega); have q158 : 0 < (y155.length : Int) := of_decide_eq_true za; obtain ⟨ad158, e158, hx158_0, hx158_1⟩ := at_T59 (Kd.R_reads' HO157.out).2.2 0 p158 q158; cases e158; have qi158 : (0 < y155.length) = True := eq_true (by omega); (try rw [show ((0 : Int)).toNat = 0 from rfl] at hx158_0); (try rw [show 0 * 2 = 0 from rfl] at hx158_0); (try rw [Addr.add_zero'] at hx158_0); (try rw [show ((0 : Int)).toNat = 0 from rfl] at hx158_1); (try rw [show 0 * 2 = 0 from rfl] at hx158_1); (try rw [Addr.add_zero'] at hx158_1); replace p158 := eq_true p158; replace q158 := eq_true q158; have p5 : 0 ≤ (0 : Int) := (by omega); have q5 : (0 : Int) < ((y155.length : Int) : Int) := of_decide_eq_true za; have qi5 : (0 < y155.length) = True := eq_true (by omega); obtain ⟨go5, co5, eo5, gb5, gl5, cl5, HG5⟩ := Kd.R_form HO157.out (by omega); (first | cases eo5 | (injection eo5 with ea_ en_ ec_; (first | subst ea_ | (injection ea_ with ea_; subst ea_)); subst ec_; clear en_)); have GB5 := aM gb5; have GG5 := aM HG5; clear gb5 gl5 HG5; (first | simp only [add_plain] at hx158_0 | skip); (first | simp only [add_plain] at hx158_1 | skip); obtain ⟨ce5, hcl5, hM5, hcc5, hfr5⟩ := Kd.R_elem HO157.out z59 (0 : Int) p5 q5; obtain rfl := k59_openM hM5; have hx5_0 : w8.cell? ⟨go5, (0 : Int).toNat * 2, none⟩ = some (.int .i64 ((rd_T59 y155 0).f0)) := hcc5 0 _ rfl; have hx5_1 : w8.cell? ⟨go5, (0 : Int).toNat * 2 + 1, none⟩ = some (.int .i64 ((rd_T59 y155 0).f1)) := hcc5 1 _ rfl; have hf5_0 : w8.frozen? ⟨go5, (0 : Int).toNat * 2, none⟩ = false := hfr5 0; have hf5_1 : w8.frozen? ⟨go5, (0 : Int).toNat * 2 + 1, none⟩ = false := hfr5 1; clear hcl5 hcc5 hfr5 hM5; (try rw [show ((0 : Int)).toNat = 0 from rfl] at hx5_0); (try simp only [Nat.reduceMul, Nat.zero_mul, Nat.zero_add, Nat.reduceAdd] at hx5_0); (try rw [show ((0 : Int)).toNat = 0 from rfl] at hf5_0); (try simp only [Nat.reduceMul, Nat.zero_mul, Nat.zero_add, Nat.reduceAdd] at hf5_0); (try rw [show ((0 : Int)).toNat = 0 from rfl] at hx5_1); (try simp only [Nat.reduceMul, Nat.zero_mul, Nat.zero_add, Nat.reduceAdd] at hx5_1); (try rw [show ((0 : Int)).toNat = 0 from rfl] at hf5_1); (try simp only [Nat.reduceMul, Nat.zero_mul, Nat.zero_add, Nat.reduceAdd] at hf5_1); replace p5 := eq_true p5; replace q5 := eq_true q5; have HX11 := aM (show Kd.R k59 59 w8 w.heap.size (fun _ => True) (.slice (some ⟨go5, 0, none⟩) y155.length co10) y155 from (mR_ HO157.out)); obtain ⟨ce11, hcl11, hM11, hcc11, hfr11⟩ := Kd.R_elem HX11.out z59 (0 : Int) (by omega) (by have h_ : (0 : Int) < ((y155.length : Int) : Int) := of_decide_eq_true za; first | exact h_ | (have e_ := (Kd.R_reads' HO157.out).1; omega) | simpa using h_); obtain rfl := k59_openM hM11; have HP11 := Kd.R_seg HX11.out (0 : Int) (by omega) (by have h_ : (0 : Int) < ((y155.length : Int) : Int) := of_decide_eq_true za; first | exact h_ | (have e_ := (Kd.R_reads' HO157.out).1; omega) | simpa using h_) (seg := [.int .i64 ((rd_T59 y155 0).f0)]) (j := 1) hcl11 hcc11 (show 2 ≤ 2 from by decide) (x' := (⟨(rd_T59 y155 0).f0, (rd_T59 y155 0).f0⟩ : S59)) (k59_mkM _ _ _ (⟨(rd_T59 y155 0).f0, (rd_T59 y155 0).f0⟩ : S59) ) (fun _ hk => hk); have hx11_1 := hcc11 1 _ rfl; (try simp only [show (k59).sz = 2 from rfl, Nat.mul_one, Nat.add_zero] at hx11_1); (try rw [show ((0 : Int)).toNat = 0 from rfl] at hx11_1); (try simp only [Nat.reduceMul, Nat.zero_mul, Nat.zero_add, Nat.reduceAdd] at hx11_1); have hf11_1 := hfr11 1; (try simp only [show (k59).sz = 2 from rfl, Nat.mul_one, Nat.add_zero] at hf11_1); (try rw [show ((0 : Int)).toNat = 0 from rfl] at hf11_1); (try simp only [Nat.reduceMul, Nat.zero_mul, Nat.zero_add, Nat.reduceAdd] at hf11_1); clear hcl11 hcc11 hfr11 hM11) | ((with_reducible refine gate_store (t := 2) (p := 21) rfl ?_); refine store_event (t := 2) (p := 21) (v := ?vo_w12) (w1 := (w8.setCell ⟨go5, 1, none⟩ (.int .i64 ((rd_T59 y155 0).f0)))) ?hg ?ho ?hn ?hr ?_; (case ho => rfl); (case hg => rfl); (case hn => rfl); (case hr => first | (go_simp; done) | (go_simp; rfl)); intro w12 hw; have hg : w8.grownBy w12 (some go5) := (by rw [hw]; exact HP11.2); have hp_ : Kd.R k59 59 w12 w.heap.size (fun _ => True) (.slice (some ⟨go5, 0, none⟩) y155.length co10) y159 := (by rw [hw, Ny159.out]; exact HP11.1); clear HP11; have n0_ := aM (IsS75.grown (zI75 HI0.out) hg (IsS75.own_ne HI0.out HO157.out (by decide))); have n1_ := aM (hp_); have n2_ := aM ((by rw [hw]; exact below_set (HB.out) (Nat.le_trans HL.out GB5.out) : Below w0.heap.size w0 w12)); have n3_ := aM (KeepBut.trans (zK HK.out) (KeepBut.of_grown hg g) (Kd.R_base2 HO157.out)); clear HI0 HO157 HB HK; have HI0 := n0_; have HO157 := n1_; have HB := n2_; have HK := n3_; clear n0_ n1_ n2_ n3_; clear hg hw hp_) | ((with_reducible refine gate_callee (f := 60) rfl ?_); refine goesL_ (some 23) rfl rfl Try.func60 (by kernel_rfl) rfl #[.pointer (some ⟨g, 0, none⟩), .int .i64 6] rfl zm ?_; (with_reducible refine (spec_l01Next.calls g s0_0 t153 t154 6 t160 t161 t162 w0 _ ?side1 ?side2 A6.out).mono ?_); (case side1 => exact zI75 HI0.out); (case side2 => exact zs (IsS75.ge HI0.out)); rintro e w13 ⟨rfl, hi, hb, hk⟩; refine ⟨_, rfl, ?_⟩; have n0_ := aM (Kd.R_mono (Kd.R_keep (IsS75.apart (show IsS75 w0 _ g s0_0 t153 t154 from zI75 HI0.out) (mR_ HO157.out) (by decide)) hk (fun _ h => h.2)) (fun _ h => h.1)); have n1_ := aM (KeepBut.trans (zK HK.out) hk (.inl rfl)); have n2_ := aM (hb); have n3_ := aM (hi); clear HO157 HK HB HI0; have HO157 := n0_; have HK := n1_; have HB := n2_; have HI0 := n3_; clear n0_ n1_ n2_ n3_; (try clear hb); (try clear hb2); (try clear hk); (try clear hi)))
 go_loopg [5, 6] k (fun kq v5 v6 w' => ∃ (x5_1 : List (S59)) (x6_1 : Int) (x1001_1 : Int) (x1002_1 : Int), v6 = .int .i64 x6_1 ∧ Aside0 (spec_l07Draw.l0 kq a1 x5_1 x6_1 s0_0 x1001_1 x1002_1 = some (r1, r2, r3)) ∧ Aside0 (kq ≤ k) ∧ Aside0 (Kd.R k59 59 w' w.heap.size (fun _ => True) v5 x5_1) ∧ Aside0 (IsS75 w0 w' g s0_0 x1001_1 x1002_1) ∧ Aside0 (KeepBut w w' g none) ∧ Aside0 (Below w0.heap.size w0 w'))
 case atStart => exact ⟨(y159), (t160), (t161), (t162), zr, H', ⟨Nat.le_refl _⟩, ⟨mR_ HO157.out⟩, ⟨zI75 HI0.out⟩, ⟨zK HK.out⟩, ⟨zs (IsS75.ge HI0.out)⟩⟩
 case round =>
  clear H'
  try clear c1
  try clear p1
  try clear q1
  try clear hx1
  try clear qi1
  try clear c2
  try clear p2
  try clear c4
  try clear c4b0
  try clear c4b1
  try clear c5
  try clear p5
  try clear q5
  try clear hx5
  try clear qi5
  try clear hf5
  try clear c6
  try clear p6
  try clear c11
  try clear hx11
  try clear hf11
  try clear hx11_1
  try clear hx158_0
  try clear hx158_1
  try clear hx5_0
  try clear hx5_1
  try clear p158
  try clear p5
  try clear q158
  try clear q5
  obtain ⟨x5_1, x6_1, x1001_1, x1002_1, rfl, HA, HK1, HO_5, HI0, HK, HB⟩ := hrel
  cases gk with
  | zero => exact absurd HA.out (by simp [spec_l07Draw.l0])
  | succ k1 =>
   have H := HA.out
   clear HA
   simp only [spec_l07Draw.l0] at H
   by_cases c14 : x6_1 > 0
   ·rw [if_pos c14] at H
    have c14b0 : decide (0 < x6_1) = true := decide_eq_true c14
    clear c14
    replace H := Option.bind_eq_some_iff.mp H
    obtain ⟨⟨t163, t164, t165⟩, A150, H⟩ := H
    replace H : (if 0 ≤ t163 then (if t163 < (x5_1.length : Int) then ((spec_l07Around.f a1 ((rd_T59 x5_1 t163).f0) ((rd_T59 x5_1 t163).f1)).bind fun t167 => ((spec_l01Next.f s0_0 t164 t165 (t167.length : Int)).bind fun bt170 => (if 0 ≤ bt170.1 then (if bt170.1 < (t167.length : Int) then ((spec_l02Index.f k1 x5_1 ((rd_T59 t167 bt170.1).f0) ((rd_T59 t167 bt170.1).f1)).bind fun t175 => (if t175 < 0 then ((spec_l02Insert.f k1 x5_1 ((rd_T59 t167 bt170.1).f0) ((rd_T59 t167 bt170.1).f1)).bind fun t176 => (spec_l07Draw.l0 k1 a1 t176 (wrap64 (x6_1 - 1)) s0_0 bt170.2.1 bt170.2.2)) else (spec_l07Draw.l0 k1 a1 x5_1 (wrap64 (x6_1 - 1)) s0_0 bt170.2.1 bt170.2.2))) else (none)) else (none)))) else (none)) else (none)) = some (r1, r2, r3) := H
    have A15 := aM A150
    clear A150
    by_cases c16 : 0 ≤ t163
    rotate_left
    ·rw [if_neg c16] at H
     exact absurd H (by simp)
    rw [if_pos c16] at H
    have c16b0 : decide (0 ≤ t163) = true := decide_eq_true c16
    clear c16
    by_cases c17 : t163 < (x5_1.length : Int)
    rotate_left
    ·rw [if_neg c17] at H
     exact absurd H (by simp)
    rw [if_pos c17] at H
    have c17b0 : decide (t163 < (x5_1.length : Int)) = true := decide_eq_true c17
    clear c17
    replace H := Option.bind_eq_some_iff.mp H
    obtain ⟨t167, A180, H⟩ := H
    replace H : ((spec_l01Next.f s0_0 t164 t165 (t167.length : Int)).bind fun bt170 => (if 0 ≤ bt170.1 then (if bt170.1 < (t167.length : Int) then ((spec_l02Index.f k1 x5_1 ((rd_T59 t167 bt170.1).f0) ((rd_T59 t167 bt170.1).f1)).bind fun t175 => (if t175 < 0 then ((spec_l02Insert.f k1 x5_1 ((rd_T59 t167 bt170.1).f0) ((rd_T59 t167 bt170.1).f1)).bind fun t176 => (spec_l07Draw.l0 k1 a1 t176 (wrap64 (x6_1 - 1)) s0_0 bt170.2.1 bt170.2.2)) else (spec_l07Draw.l0 k1 a1 x5_1 (wrap64 (x6_1 - 1)) s0_0 bt170.2.1 bt170.2.2))) else (none)) else (none))) = some (r1, r2, r3) := H
    have A18 := aM A180
    clear A180
    replace H := Option.bind_eq_some_iff.mp H
    obtain ⟨⟨t170, t171, t172⟩, A190, H⟩ := H
    replace H : (if 0 ≤ t170 then (if t170 < (t167.length : Int) then ((spec_l02Index.f k1 x5_1 ((rd_T59 t167 t170).f0) ((rd_T59 t167 t170).f1)).bind fun t175 => (if t175 < 0 then ((spec_l02Insert.f k1 x5_1 ((rd_T59 t167 t170).f0) ((rd_T59 t167 t170).f1)).bind fun t176 => (spec_l07Draw.l0 k1 a1 t176 (wrap64 (x6_1 - 1)) s0_0 t171 t172)) else (spec_l07Draw.l0 k1 a1 x5_1 (wrap64 (x6_1 - 1)) s0_0 t171 t172))) else (none)) else (none)) = some (r1, r2, r3) := H
    have A19 := aM A190
    clear A190
    by_cases c20 : 0 ≤ t170
    rotate_left
    ·rw [if_neg c20] at H
     exact absurd H (by simp)
    rw [if_pos c20] at H
    have c20b0 : decide (0 ≤ t170) = true := decide_eq_true c20
    clear c20
    by_cases c21 : t170 < (t167.length : Int)
    rotate_left
    ·rw [if_neg c21] at H
     exact absurd H (by simp)
    rw [if_pos c21] at H
    have c21b0 : decide (t170 < (t167.length : Int)) = true := decide_eq_true c21
    clear c21
    replace H := Option.bind_eq_some_iff.mp H
    obtain ⟨t175, A220, H⟩ := H
    replace H : (if t175 < 0 then ((spec_l02Insert.f k1 x5_1 ((rd_T59 t167 t170).f0) ((rd_T59 t167 t170).f1)).bind fun t176 => (spec_l07Draw.l0 k1 a1 t176 (wrap64 (x6_1 - 1)) s0_0 t171 t172)) else (spec_l07Draw.l0 k1 a1 x5_1 (wrap64 (x6_1 - 1)) s0_0 t171 t172)) = some (r1, r2, r3) := H
    have A22 := aM A220
    clear A220
    by_cases c23 : t175 < 0
    rotate_left
    ·rw [if_neg c23] at H
     have c23b0 : decide (t175 < 0) = false := decide_eq_false c23
     clear c23
     have H' := aM H
     clear H
     obtain ⟨Ao36, co36, eo36⟩ := Kd.R_slice HO_5.out
     subst eo36
     go_wp2_with (first | ((with_reducible refine gate_callee (f := 60) rfl ?_); refine goesL_ (some 33) rfl rfl Try.func60 (by kernel_rfl) rfl #[.pointer (some ⟨g, 0, none⟩), .int .i64 (x5_1.length : Int)] rfl zm ?_; (with_reducible refine (spec_l01Next.calls g s0_0 x1001_1 x1002_1 (x5_1.length : Int) t163 t164 t165 w0 _ ?side1 ?side2 A15.out).mono ?_); (case side1 => exact zI75 HI0.out); (case side2 => exact zs (IsS75.ge HI0.out)); rintro e w37 ⟨rfl, hi, hb, hk⟩; refine ⟨_, rfl, ?_⟩; have n0_ := aM (Kd.R_mono (Kd.R_keep (IsS75.apart (show IsS75 w0 _ g s0_0 x1001_1 x1002_1 from zI75 HI0.out) (mR_ HO_5.out) (by decide)) hk (fun _ h => h.2)) (fun _ h => h.1)); have n1_ := aM (KeepBut.trans (zK HK.out) hk (.inl rfl)); have n2_ := aM (hb); have n3_ := aM (hi); clear HO_5 HK HB HI0; have HO_5 := n0_; have HK := n1_; have HB := n2_; have HI0 := n3_; clear n0_ n1_ n2_ n3_; (try clear hb); (try clear hb2); (try clear hk); (try clear hi); have p166 : 0 ≤ (t163 : Int) := of_decide_eq_true za; have q166 : t163 < (x5_1.length : Int) := of_decide_eq_true za; obtain ⟨ad166, e166, hx166_0, hx166_1⟩ := at_T59 (Kd.R_reads' HO_5.out).2.2 t163 p166 q166; cases e166; replace p166 := eq_true p166; replace q166 := eq_true q166) | ((with_reducible refine gate_callee (f := 87) rfl ?_); refine goesL_ (some 36) rfl rfl Try.func87 (by kernel_rfl) rfl #[.int .i64 a1, .agg #[.int .i64 ((rd_T59 x5_1 t163).f0), .int .i64 ((rd_T59 x5_1 t163).f1)]] rfl zm ?_; (with_reducible refine (spec_l07Around.calls a1 ((rd_T59 x5_1 t163).f0) ((rd_T59 x5_1 t163).f1) t167 _ A18.out).mono ?_); rintro e w38 ⟨v168, rfl, ho0, hb⟩; refine ⟨_, rfl, ?_⟩; have n0_ := aM (Kd.R_elder' (mR_ HO_5.out) (Kd.R_base ho0) hb); have n1_ := aM (Kd.R_lower (Kd.R_new' ho0 (Kd.R_lt (mR_ HO_5.out))) (keep_size (w := w) (g := g) (row := none) (zK HK.out))); have n2_ := aM (IsS75.below (zI75 HI0.out) hb); have n3_ := aM (KeepBut.trans (zK HK.out) (KeepBut.of_below hb g none) (.inl rfl)); have n4_ := aM (below_step (zs (IsS75.ge HI0.out)) hb); clear HO_5 HI0 HK HB; have HO_5 := n0_; have HO169 := n1_; have HI0 := n2_; have HK := n3_; have HB := n4_; clear n0_ n1_ n2_ n3_ n4_; (try clear hb); (try clear hb2); (try clear hk); (try clear hi); (try clear ho0); obtain ⟨Ao39, co39, eo39⟩ := Kd.R_slice HO169.out; subst eo39) | ((with_reducible refine gate_callee (f := 60) rfl ?_); refine goesL_ (some 41) rfl rfl Try.func60 (by kernel_rfl) rfl #[.pointer (some ⟨g, 0, none⟩), .int .i64 (t167.length : Int)] rfl zm ?_; (with_reducible refine (spec_l01Next.calls g s0_0 t164 t165 (t167.length : Int) t170 t171 t172 w0 _ ?side1 ?side2 A19.out).mono ?_); (case side1 => exact zI75 HI0.out); (case side2 => exact zs (IsS75.ge HI0.out)); rintro e w40 ⟨rfl, hi, hb, hk⟩; refine ⟨_, rfl, ?_⟩; have n0_ := aM (Kd.R_mono (Kd.R_keep (IsS75.apart (show IsS75 w0 _ g s0_0 t164 t165 from zI75 HI0.out) (mR_ HO_5.out) (by decide)) hk (fun _ h => h.2)) (fun _ h => h.1)); have n1_ := aM (Kd.R_mono (Kd.R_keep (IsS75.apart (show IsS75 w0 _ g s0_0 t164 t165 from zI75 HI0.out) (mR_ HO169.out) (by decide)) hk (fun _ h => h.2)) (fun _ h => h.1)); have n2_ := aM (KeepBut.trans (zK HK.out) hk (.inl rfl)); have n3_ := aM (hb); have n4_ := aM (hi); clear HO_5 HO169 HK HB HI0; have HO_5 := n0_; have HO169 := n1_; have HK := n2_; have HB := n3_; have HI0 := n4_; clear n0_ n1_ n2_ n3_ n4_; (try clear hb); (try clear hb2); (try clear hk); (try clear hi); have p173 : 0 ≤ (t170 : Int) := of_decide_eq_true za; have q173 : t170 < (t167.length : Int) := of_decide_eq_true za; obtain ⟨ad173, e173, hx173_0, hx173_1⟩ := at_T59 (Kd.R_reads' HO169.out).2.2 t170 p173 q173; cases e173; replace p173 := eq_true p173; replace q173 := eq_true q173) | ((with_reducible refine gate_dst (N := 8) rfl ?_); refine zx 8 #[.int .i64 0, .int .i64 0] 59 ?_; intro gb174 hg w41 hbox hb; have n0_ := aM (Kd.R_below (Kd.R_elderB (mR_ HO_5.out) gb174 (Nat.le_of_eq hg.symm)) hb); have n1_ := aM (Kd.R_below (Kd.R_elderB (mR_ HO169.out) gb174 (Nat.le_of_eq hg.symm)) hb); have n2_ := aM (IsS75.below (zI75 HI0.out) hb); have n3_ := aM (KeepBut.trans (zK HK.out) (KeepBut.of_below hb g none) (.inl rfl)); have n4_ := aM (below_step (zs (IsS75.ge HI0.out)) hb); have n5_ := aM (hbox); have n6_ := aM ((by rw [hg]; exact (keep_size (w := w) (g := g) (row := none) (zK HK.out)) : w.heap.size ≤ gb174)); have n7_ := aM ((Nat.le_trans HW0.out (by rw [hg]; exact (keep_size (w := w) (g := g) (row := none) (zK HK.out)) : w.heap.size ≤ gb174) : w0.heap.size ≤ gb174)); have n8_ := aM ((by rw [hg]; exact Nat.ne_of_lt (IsS75.lt (show IsS75 w0 _ g s0_0 t171 t172 from zI75 HI0.out)) : g ≠ gb174)); have n9_ := aM ((by rw [hg]; exact Nat.ne_of_gt (IsS75.lt (show IsS75 w0 _ g s0_0 t171 t172 from zI75 HI0.out)) : gb174 ≠ g)); clear HO_5 HO169 HI0 HK HB; have HO_5 := n0_; have HO169 := n1_; have HI0 := n2_; have HK := n3_; have HB := n4_; have BK174 := n5_; have GW174 := n6_; have GE174 := n7_; have NB0_174 := n8_; have NB174_0 := n9_; clear n0_ n1_ n2_ n3_ n4_ n5_ n6_ n7_ n8_ n9_ hb hbox hg; have hnb42 := NB174_0.out; have hnc42 := NB0_174.out; have hcz43_0 : w41.cell? ⟨gb174, 0, none⟩ = some (.int .i64 0) := (blk_cell BK174.out 0).trans rfl; have hcz43_1 : w41.cell? ⟨gb174, 1, none⟩ = some (.int .i64 0) := (blk_cell BK174.out 1).trans rfl; have hfz43_0 := blk_frozen BK174.out 0; have hfz43_1 := blk_frozen BK174.out 1) | ((with_reducible refine gate_callee (f := 64) rfl ?_); refine goesL_ (some 46) rfl rfl Try.func64 (by kernel_rfl) rfl #[.slice (some ad166) x5_1.length co36, .agg #[.int .i64 ((rd_T59 t167 t170).f0), .int .i64 ((rd_T59 t167 t170).f1)]] rfl zm ?_; (with_reducible refine (spec_l02Index.calls k1 _ _ x5_1 ((rd_T59 t167 t170).f0) ((rd_T59 t167 t170).f1) t175 _ ?side1 ?side2 A22.out).mono ?_); (case side1 => refine (Kd.R_reads' (e := 59) (base := w.heap.size) (ok := fun k_ => ((True ∧ some k_ ≠ (.slice (some ad173) t167.length co39 : Value).ownBlock) ∧ k_ ≠ gb174)) (n := x5_1.length) (c := co36) ?_).2.2; exact (by (with_reducible repeat (first | apply Kd.R_alloc | apply Kd.R_drewN | apply Kd.R_drew)); exact (Kd.R_mono (Kd.R_far (p := ⟨gb174, 1, none⟩) (Kd.R_far (p := ⟨gb174, 0, none⟩) (Kd.R_mono HO_5.out (fun k_ hk => (⟨hk, hk.2⟩ : _ ∧ k_ ≠ gb174))) (fun _ hk => hk.2) (.int .i64 ((rd_T59 t167 t170).f0))) (fun _ hk => hk.2) (.int .i64 ((rd_T59 t167 t170).f1))) (fun _ h_ => h_.1)))); (case side2 => exact (Kd.R_reads' HO_5.out).2.1); rintro e w44 ⟨rfl, hb⟩; refine ⟨_, rfl, ?_⟩; have n0_ := aM (Kd.R_below (by (with_reducible repeat (first | apply Kd.R_alloc | apply Kd.R_drewN | apply Kd.R_drew)); exact (Kd.R_mono (Kd.R_far (p := ⟨gb174, 1, none⟩) (Kd.R_far (p := ⟨gb174, 0, none⟩) (Kd.R_mono HO_5.out (fun k_ hk => (⟨hk, hk.2⟩ : _ ∧ k_ ≠ gb174))) (fun _ hk => hk.2) (.int .i64 ((rd_T59 t167 t170).f0))) (fun _ hk => hk.2) (.int .i64 ((rd_T59 t167 t170).f1))) (fun _ h_ => h_.1))) hb); have n1_ := aM (Kd.R_below (by (with_reducible repeat (first | apply Kd.R_alloc | apply Kd.R_drewN | apply Kd.R_drew)); exact (Kd.R_mono (Kd.R_far (p := ⟨gb174, 1, none⟩) (Kd.R_far (p := ⟨gb174, 0, none⟩) (Kd.R_mono HO169.out (fun k_ hk => (⟨hk, hk.2⟩ : _ ∧ k_ ≠ gb174))) (fun _ hk => hk.2) (.int .i64 ((rd_T59 t167 t170).f0))) (fun _ hk => hk.2) (.int .i64 ((rd_T59 t167 t170).f1))) (fun _ h_ => h_.1))) hb); have n2_ := aM (IsS75.below (show IsS75 w0 ((w41.setCell ⟨gb174, 0, none⟩ (.int .i64 ((rd_T59 t167 t170).f0))).setCell ⟨gb174, 1, none⟩ (.int .i64 ((rd_T59 t167 t170).f1))) g s0_0 t171 t172 from by repeat (first | (with_reducible first | exact HI0.out | apply IsS75.alloc | apply IsS75.drewN | apply IsS75.drew | apply IsS75.set_1 | apply IsS75.set_2 | refine IsS75.far ?_ NB0_174.out _) | exact HI0.out)) hb); have n3_ := aM (blk_below (g := gb174) (o := .cells #[.int .i64 ((rd_T59 t167 t170).f0), .int .i64 ((rd_T59 t167 t170).f1)] 59 (0, 0)) (by (with_reducible repeat (first | refine blk_drewN ?_ _ | refine blk_drew ?_ | refine blk_alloc ?_ _)); refine blk_put (cs := #[.int .i64 ((rd_T59 t167 t170).f0), .int .i64 0]) ?_ 1 _ rfl; (with_reducible repeat (first | refine blk_drewN ?_ _ | refine blk_drew ?_ | refine blk_alloc ?_ _)); refine blk_put (cs := #[.int .i64 0, .int .i64 0]) ?_ 0 _ rfl; (with_reducible repeat (first | refine blk_drewN ?_ _ | refine blk_drew ?_ | refine blk_alloc ?_ _)); exact BK174.out) hb); have n4_ := aM (KeepBut.trans (by repeat (first | (with_reducible first | exact HK.out | apply KeepBut.set_ | apply keep_drewN | apply keep_drew | apply keep_alloc | refine keep_far ?_ GW174.out _) | exact HK.out)) (KeepBut.of_below hb g none) (.inl rfl)); have n5_ := aM (below_step (by repeat (first | (with_reducible first | exact HB.out | apply below_alloc | apply pw_below_drewN | apply below_drew1 | refine below_set ?_ (IsS75.ge HI0.out) | refine below_set ?_ GE174.out) | exact HB.out)) hb); clear HO_5 HO169 HI0 BK174 HK HB; have HO_5 := n0_; have HO169 := n1_; have HI0 := n2_; have BK174 := n3_; have HK := n4_; have HB := n5_; clear n0_ n1_ n2_ n3_ n4_ n5_; (try clear hb); (try clear hb2); (try clear hk); (try clear hi)))
     go_roundg k1
     case measure => have := HK1.out; omega
     case rel => exact ⟨(x5_1), (wrap64 (x6_1 - 1)), (t171), (t172), zr, H', ⟨by have := HK1.out; omega⟩, ⟨zd0 HO_5.out⟩, ⟨by repeat (first | (with_reducible first | exact HI0.out | apply IsS75.alloc | apply IsS75.drewN | apply IsS75.drew | apply IsS75.set_1 | apply IsS75.set_2 | refine IsS75.far ?_ NB0_174.out _) | exact HI0.out)⟩, ⟨by repeat (first | (with_reducible first | exact HK.out | apply KeepBut.set_ | apply keep_drewN | apply keep_drew | apply keep_alloc | refine keep_far ?_ GW174.out _) | exact HK.out)⟩, ⟨by repeat (first | (with_reducible first | exact HB.out | apply below_alloc | apply pw_below_drewN | apply below_drew1 | refine below_set ?_ (IsS75.ge HI0.out) | refine below_set ?_ GE174.out) | exact HB.out)⟩⟩
    rw [if_pos c23] at H
    have c23b0 : decide (t175 < 0) = true := decide_eq_true c23
    clear c23
    replace H := Option.bind_eq_some_iff.mp H
    obtain ⟨t176, A240, H⟩ := H
    replace H : (spec_l07Draw.l0 k1 a1 t176 (wrap64 (x6_1 - 1)) s0_0 t171 t172) = some (r1, r2, r3) := H
    have A24 := aM A240
    clear A240
    have H' := aM H
    clear H
    obtain ⟨Ao25, co25, eo25⟩ := Kd.R_slice HO_5.out
    subst eo25
    go_wp2_with (first | ((with_reducible refine gate_callee (f := 60) rfl ?_); refine goesL_ (some 33) rfl rfl Try.func60 (by kernel_rfl) rfl #[.pointer (some ⟨g, 0, none⟩), .int .i64 (x5_1.length : Int)] rfl zm ?_; (with_reducible refine (spec_l01Next.calls g s0_0 x1001_1 x1002_1 (x5_1.length : Int) t163 t164 t165 w0 _ ?side1 ?side2 A15.out).mono ?_); (case side1 => exact zI75 HI0.out); (case side2 => exact zs (IsS75.ge HI0.out)); rintro e w26 ⟨rfl, hi, hb, hk⟩; refine ⟨_, rfl, ?_⟩; have n0_ := aM (Kd.R_mono (Kd.R_keep (IsS75.apart (show IsS75 w0 _ g s0_0 x1001_1 x1002_1 from zI75 HI0.out) (mR_ HO_5.out) (by decide)) hk (fun _ h => h.2)) (fun _ h => h.1)); have n1_ := aM (KeepBut.trans (zK HK.out) hk (.inl rfl)); have n2_ := aM (hb); have n3_ := aM (hi); clear HO_5 HK HB HI0; have HO_5 := n0_; have HK := n1_; have HB := n2_; have HI0 := n3_; clear n0_ n1_ n2_ n3_; (try clear hb); (try clear hb2); (try clear hk); (try clear hi); have p166 : 0 ≤ (t163 : Int) := of_decide_eq_true za; have q166 : t163 < (x5_1.length : Int) := of_decide_eq_true za; obtain ⟨ad166, e166, hx166_0, hx166_1⟩ := at_T59 (Kd.R_reads' HO_5.out).2.2 t163 p166 q166; cases e166; replace p166 := eq_true p166; replace q166 := eq_true q166) | ((with_reducible refine gate_callee (f := 87) rfl ?_); refine goesL_ (some 36) rfl rfl Try.func87 (by kernel_rfl) rfl #[.int .i64 a1, .agg #[.int .i64 ((rd_T59 x5_1 t163).f0), .int .i64 ((rd_T59 x5_1 t163).f1)]] rfl zm ?_; (with_reducible refine (spec_l07Around.calls a1 ((rd_T59 x5_1 t163).f0) ((rd_T59 x5_1 t163).f1) t167 _ A18.out).mono ?_); rintro e w27 ⟨v168, rfl, ho0, hb⟩; refine ⟨_, rfl, ?_⟩; have n0_ := aM (Kd.R_elder' (mR_ HO_5.out) (Kd.R_base ho0) hb); have n1_ := aM (Kd.R_lower (Kd.R_new' ho0 (Kd.R_lt (mR_ HO_5.out))) (keep_size (w := w) (g := g) (row := none) (zK HK.out))); have n2_ := aM (IsS75.below (zI75 HI0.out) hb); have n3_ := aM (KeepBut.trans (zK HK.out) (KeepBut.of_below hb g none) (.inl rfl)); have n4_ := aM (below_step (zs (IsS75.ge HI0.out)) hb); clear HO_5 HI0 HK HB; have HO_5 := n0_; have HO169 := n1_; have HI0 := n2_; have HK := n3_; have HB := n4_; clear n0_ n1_ n2_ n3_ n4_; (try clear hb); (try clear hb2); (try clear hk); (try clear hi); (try clear ho0); obtain ⟨Ao28, co28, eo28⟩ := Kd.R_slice HO169.out; subst eo28) | ((with_reducible refine gate_callee (f := 60) rfl ?_); refine goesL_ (some 41) rfl rfl Try.func60 (by kernel_rfl) rfl #[.pointer (some ⟨g, 0, none⟩), .int .i64 (t167.length : Int)] rfl zm ?_; (with_reducible refine (spec_l01Next.calls g s0_0 t164 t165 (t167.length : Int) t170 t171 t172 w0 _ ?side1 ?side2 A19.out).mono ?_); (case side1 => exact zI75 HI0.out); (case side2 => exact zs (IsS75.ge HI0.out)); rintro e w29 ⟨rfl, hi, hb, hk⟩; refine ⟨_, rfl, ?_⟩; have n0_ := aM (Kd.R_mono (Kd.R_keep (IsS75.apart (show IsS75 w0 _ g s0_0 t164 t165 from zI75 HI0.out) (mR_ HO_5.out) (by decide)) hk (fun _ h => h.2)) (fun _ h => h.1)); have n1_ := aM (Kd.R_mono (Kd.R_keep (IsS75.apart (show IsS75 w0 _ g s0_0 t164 t165 from zI75 HI0.out) (mR_ HO169.out) (by decide)) hk (fun _ h => h.2)) (fun _ h => h.1)); have n2_ := aM (KeepBut.trans (zK HK.out) hk (.inl rfl)); have n3_ := aM (hb); have n4_ := aM (hi); clear HO_5 HO169 HK HB HI0; have HO_5 := n0_; have HO169 := n1_; have HK := n2_; have HB := n3_; have HI0 := n4_; clear n0_ n1_ n2_ n3_ n4_; (try clear hb); (try clear hb2); (try clear hk); (try clear hi); have p173 : 0 ≤ (t170 : Int) := of_decide_eq_true za; have q173 : t170 < (t167.length : Int) := of_decide_eq_true za; obtain ⟨ad173, e173, hx173_0, hx173_1⟩ := at_T59 (Kd.R_reads' HO169.out).2.2 t170 p173 q173; cases e173; replace p173 := eq_true p173; replace q173 := eq_true q173) | ((with_reducible refine gate_dst (N := 8) rfl ?_); refine zx 8 #[.int .i64 0, .int .i64 0] 59 ?_; intro gb174 hg w30 hbox hb; have n0_ := aM (Kd.R_below (Kd.R_elderB (mR_ HO_5.out) gb174 (Nat.le_of_eq hg.symm)) hb); have n1_ := aM (Kd.R_below (Kd.R_elderB (mR_ HO169.out) gb174 (Nat.le_of_eq hg.symm)) hb); have n2_ := aM (IsS75.below (zI75 HI0.out) hb); have n3_ := aM (KeepBut.trans (zK HK.out) (KeepBut.of_below hb g none) (.inl rfl)); have n4_ := aM (below_step (zs (IsS75.ge HI0.out)) hb); have n5_ := aM (hbox); have n6_ := aM ((by rw [hg]; exact (keep_size (w := w) (g := g) (row := none) (zK HK.out)) : w.heap.size ≤ gb174)); have n7_ := aM ((Nat.le_trans HW0.out (by rw [hg]; exact (keep_size (w := w) (g := g) (row := none) (zK HK.out)) : w.heap.size ≤ gb174) : w0.heap.size ≤ gb174)); have n8_ := aM ((by rw [hg]; exact Nat.ne_of_lt (IsS75.lt (show IsS75 w0 _ g s0_0 t171 t172 from zI75 HI0.out)) : g ≠ gb174)); have n9_ := aM ((by rw [hg]; exact Nat.ne_of_gt (IsS75.lt (show IsS75 w0 _ g s0_0 t171 t172 from zI75 HI0.out)) : gb174 ≠ g)); clear HO_5 HO169 HI0 HK HB; have HO_5 := n0_; have HO169 := n1_; have HI0 := n2_; have HK := n3_; have HB := n4_; have BK174 := n5_; have GW174 := n6_; have GE174 := n7_; have NB0_174 := n8_; have NB174_0 := n9_; clear n0_ n1_ n2_ n3_ n4_ n5_ n6_ n7_ n8_ n9_ hb hbox hg; have hnb31 := NB174_0.out; have hnc31 := NB0_174.out; have hcz32_0 : w30.cell? ⟨gb174, 0, none⟩ = some (.int .i64 0) := (blk_cell BK174.out 0).trans rfl; have hcz32_1 : w30.cell? ⟨gb174, 1, none⟩ = some (.int .i64 0) := (blk_cell BK174.out 1).trans rfl; have hfz32_0 := blk_frozen BK174.out 0; have hfz32_1 := blk_frozen BK174.out 1) | ((with_reducible refine gate_callee (f := 64) rfl ?_); refine goesL_ (some 46) rfl rfl Try.func64 (by kernel_rfl) rfl #[.slice (some ad166) x5_1.length co25, .agg #[.int .i64 ((rd_T59 t167 t170).f0), .int .i64 ((rd_T59 t167 t170).f1)]] rfl zm ?_; (with_reducible refine (spec_l02Index.calls k1 _ _ x5_1 ((rd_T59 t167 t170).f0) ((rd_T59 t167 t170).f1) t175 _ ?side1 ?side2 A22.out).mono ?_); (case side1 => refine (Kd.R_reads' (e := 59) (base := w.heap.size) (ok := fun k_ => ((True ∧ some k_ ≠ (.slice (some ad173) t167.length co28 : Value).ownBlock) ∧ k_ ≠ gb174)) (n := x5_1.length) (c := co25) ?_).2.2; exact (by (with_reducible repeat (first | apply Kd.R_alloc | apply Kd.R_drewN | apply Kd.R_drew)); exact (Kd.R_mono (Kd.R_far (p := ⟨gb174, 1, none⟩) (Kd.R_far (p := ⟨gb174, 0, none⟩) (Kd.R_mono HO_5.out (fun k_ hk => (⟨hk, hk.2⟩ : _ ∧ k_ ≠ gb174))) (fun _ hk => hk.2) (.int .i64 ((rd_T59 t167 t170).f0))) (fun _ hk => hk.2) (.int .i64 ((rd_T59 t167 t170).f1))) (fun _ h_ => h_.1)))); (case side2 => exact (Kd.R_reads' HO_5.out).2.1); rintro e w33 ⟨rfl, hb⟩; refine ⟨_, rfl, ?_⟩; have n0_ := aM (Kd.R_below (by (with_reducible repeat (first | apply Kd.R_alloc | apply Kd.R_drewN | apply Kd.R_drew)); exact (Kd.R_mono (Kd.R_far (p := ⟨gb174, 1, none⟩) (Kd.R_far (p := ⟨gb174, 0, none⟩) (Kd.R_mono HO_5.out (fun k_ hk => (⟨hk, hk.2⟩ : _ ∧ k_ ≠ gb174))) (fun _ hk => hk.2) (.int .i64 ((rd_T59 t167 t170).f0))) (fun _ hk => hk.2) (.int .i64 ((rd_T59 t167 t170).f1))) (fun _ h_ => h_.1))) hb); have n1_ := aM (Kd.R_below (by (with_reducible repeat (first | apply Kd.R_alloc | apply Kd.R_drewN | apply Kd.R_drew)); exact (Kd.R_mono (Kd.R_far (p := ⟨gb174, 1, none⟩) (Kd.R_far (p := ⟨gb174, 0, none⟩) (Kd.R_mono HO169.out (fun k_ hk => (⟨hk, hk.2⟩ : _ ∧ k_ ≠ gb174))) (fun _ hk => hk.2) (.int .i64 ((rd_T59 t167 t170).f0))) (fun _ hk => hk.2) (.int .i64 ((rd_T59 t167 t170).f1))) (fun _ h_ => h_.1))) hb); have n2_ := aM (IsS75.below (show IsS75 w0 ((w30.setCell ⟨gb174, 0, none⟩ (.int .i64 ((rd_T59 t167 t170).f0))).setCell ⟨gb174, 1, none⟩ (.int .i64 ((rd_T59 t167 t170).f1))) g s0_0 t171 t172 from by repeat (first | (with_reducible first | exact HI0.out | apply IsS75.alloc | apply IsS75.drewN | apply IsS75.drew | apply IsS75.set_1 | apply IsS75.set_2 | refine IsS75.far ?_ NB0_174.out _) | exact HI0.out)) hb); have n3_ := aM (blk_below (g := gb174) (o := .cells #[.int .i64 ((rd_T59 t167 t170).f0), .int .i64 ((rd_T59 t167 t170).f1)] 59 (0, 0)) (by (with_reducible repeat (first | refine blk_drewN ?_ _ | refine blk_drew ?_ | refine blk_alloc ?_ _)); refine blk_put (cs := #[.int .i64 ((rd_T59 t167 t170).f0), .int .i64 0]) ?_ 1 _ rfl; (with_reducible repeat (first | refine blk_drewN ?_ _ | refine blk_drew ?_ | refine blk_alloc ?_ _)); refine blk_put (cs := #[.int .i64 0, .int .i64 0]) ?_ 0 _ rfl; (with_reducible repeat (first | refine blk_drewN ?_ _ | refine blk_drew ?_ | refine blk_alloc ?_ _)); exact BK174.out) hb); have n4_ := aM (KeepBut.trans (by repeat (first | (with_reducible first | exact HK.out | apply KeepBut.set_ | apply keep_drewN | apply keep_drew | apply keep_alloc | refine keep_far ?_ GW174.out _) | exact HK.out)) (KeepBut.of_below hb g none) (.inl rfl)); have n5_ := aM (below_step (by repeat (first | (with_reducible first | exact HB.out | apply below_alloc | apply pw_below_drewN | apply below_drew1 | refine below_set ?_ (IsS75.ge HI0.out) | refine below_set ?_ GE174.out) | exact HB.out)) hb); clear HO_5 HO169 HI0 BK174 HK HB; have HO_5 := n0_; have HO169 := n1_; have HI0 := n2_; have BK174 := n3_; have HK := n4_; have HB := n5_; clear n0_ n1_ n2_ n3_ n4_ n5_; (try clear hb); (try clear hb2); (try clear hk); (try clear hi); have hcz34_0 : w33.cell? ⟨gb174, 0, none⟩ = some (.int .i64 ((rd_T59 t167 t170).f0)) := (blk_cell BK174.out 0).trans rfl; have hcz34_1 : w33.cell? ⟨gb174, 1, none⟩ = some (.int .i64 ((rd_T59 t167 t170).f1)) := (blk_cell BK174.out 1).trans rfl; have hfz34_0 := blk_frozen BK174.out 0; have hfz34_1 := blk_frozen BK174.out 1) | ((with_reducible refine gate_callee (f := 91) rfl ?_); refine goesL_ (some 50) rfl rfl Try.func91 (by kernel_rfl) rfl #[.slice (some ad166) x5_1.length co25, .agg #[.int .i64 ((rd_T59 t167 t170).f0), .int .i64 ((rd_T59 t167 t170).f1)]] rfl zm ?_; (with_reducible refine (spec_l02Insert.calls k1 _ _ x5_1 ((rd_T59 t167 t170).f0) ((rd_T59 t167 t170).f1) t176 _ ?side1 ?side2 A24.out).mono ?_); (case side1 => exact zc HO_5.out); (case side2 => exact (Kd.R_reads' HO_5.out).2.1); rintro e w35 ⟨v177, rfl, ho0, hb⟩; refine ⟨_, rfl, ?_⟩; have n0_ := aM (Kd.R_elder' (mR_ HO_5.out) (Kd.R_base ho0) hb); have n1_ := aM (Kd.R_elder' (mR_ HO169.out) (Kd.R_base ho0) hb); have n2_ := aM (Kd.R_lower (Kd.R_newB (Kd.R_new' (Kd.R_new' ho0 (Kd.R_lt (mR_ HO_5.out))) (Kd.R_lt (mR_ HO169.out))) (g := gb174) (o := .cells #[.int .i64 ((rd_T59 t167 t170).f0), .int .i64 ((rd_T59 t167 t170).f1)] 59 (0, 0)) (mB_ BK174.out)) (keep_size (w := w) (g := g) (row := none) (by repeat (first | (with_reducible first | exact HK.out | apply KeepBut.set_ | apply keep_drewN | apply keep_drew | apply keep_alloc | refine keep_far ?_ GW174.out _) | exact HK.out)))); have n3_ := aM (IsS75.below (by repeat (first | (with_reducible first | exact HI0.out | apply IsS75.alloc | apply IsS75.drewN | apply IsS75.drew | apply IsS75.set_1 | apply IsS75.set_2 | refine IsS75.far ?_ NB0_174.out _) | exact HI0.out)) hb); have n4_ := aM (blk_below (g := gb174) (o := .cells #[.int .i64 ((rd_T59 t167 t170).f0), .int .i64 ((rd_T59 t167 t170).f1)] 59 (0, 0)) (mB_ BK174.out) hb); have n5_ := aM (KeepBut.trans (by repeat (first | (with_reducible first | exact HK.out | apply KeepBut.set_ | apply keep_drewN | apply keep_drew | apply keep_alloc | refine keep_far ?_ GW174.out _) | exact HK.out)) (KeepBut.of_below hb g none) (.inl rfl)); have n6_ := aM (below_step (by repeat (first | (with_reducible first | exact HB.out | apply below_alloc | apply pw_below_drewN | apply below_drew1 | refine below_set ?_ (IsS75.ge HI0.out) | refine below_set ?_ GE174.out) | exact HB.out)) hb); clear HO_5 HO169 HI0 BK174 HK HB; have HO_5 := n0_; have HO169 := n1_; have HO178 := n2_; have HI0 := n3_; have BK174 := n4_; have HK := n5_; have HB := n6_; clear n0_ n1_ n2_ n3_ n4_ n5_ n6_; (try clear hb); (try clear hb2); (try clear hk); (try clear hi); (try clear ho0)))
    go_roundg k1
    case measure => have := HK1.out; omega
    case rel => exact ⟨(t176), (wrap64 (x6_1 - 1)), (t171), (t172), zr, H', ⟨by have := HK1.out; omega⟩, ⟨zd0 HO178.out⟩, ⟨by repeat (first | (with_reducible first | exact HI0.out | apply IsS75.alloc | apply IsS75.drewN | apply IsS75.drew | apply IsS75.set_1 | apply IsS75.set_2 | refine IsS75.far ?_ NB0_174.out _) | exact HI0.out)⟩, ⟨by repeat (first | (with_reducible first | exact HK.out | apply KeepBut.set_ | apply keep_drewN | apply keep_drew | apply keep_alloc | refine keep_far ?_ GW174.out _) | exact HK.out)⟩, ⟨by repeat (first | (with_reducible first | exact HB.out | apply below_alloc | apply pw_below_drewN | apply below_drew1 | refine below_set ?_ (IsS75.ge HI0.out) | refine below_set ?_ GE174.out) | exact HB.out)⟩⟩
   rw [if_neg c14] at H
   have c14b0 : decide (0 < x6_1) = false := decide_eq_false c14
   clear c14
   replace H := Option.bind_eq_some_iff.mp H
   obtain ⟨⟨t179, t180, t181⟩, A450, H⟩ := H
   replace H : ((spec_l01Next.f s0_0 t180 t181 5).bind fun bt182 => ((spec_l02Move.f k1 x5_1 (wrap64 ((wrap64 (3 * t179)) - 6)) (wrap64 ((wrap64 (3 * bt182.1)) - 6))).bind fun t185 => ((spec_l01Next.f s0_0 bt182.2.1 bt182.2.2 (t185.length : Int)).bind fun bt188 => ((spec_l01Next.f s0_0 bt188.2.1 bt188.2.2 24).bind fun bt191 => (if bt191.1 = 0 then (if 0 ≤ bt188.1 then (if bt188.1 < (t185.length : Int) then (some ((t185.set (bt188.1 : Int).toNat (⟨wrap64 (((rd_T59 t185 bt188.1).f0) + 1), (rd_T59 t185 bt188.1).f1⟩ : S59)), bt191.2.1, bt191.2.2)) else (none)) else (none)) else (if bt191.1 = 1 then (if 0 ≤ bt188.1 then (if bt188.1 < (t185.length : Int) then (if 0 ≤ (wrap64 ((t185.length : Int) - 1)) then (if (wrap64 ((t185.length : Int) - 1)) < (t185.length : Int) then (if t185.length < 8796093022208 then (some ((t185 ++ [(⟨(rd_T59 t185 bt188.1).f0, wrap64 (((rd_T59 t185 (wrap64 ((t185.length : Int) - 1))).f1) + 6)⟩ : S59)]), bt191.2.1, bt191.2.2)) else (none)) else (none)) else (none)) else (none)) else (none)) else (if bt191.1 = 2 then (some (([] : List (S59)), bt191.2.1, bt191.2.2)) else (if bt191.1 = 3 then (if 0 < (t185.length : Int) then ((spec_l02Move.f k1 t185 (wrap64 ((wrap64 (90 - ((rd_T59 t185 0).f0))) + ((rd_T59 t185 0).f1))) 90).bind fun t203 => (some (t203, bt191.2.1, bt191.2.2))) else (none)) else (some (t185, bt191.2.1, bt191.2.2)))))))))) = some (r1, r2, r3) := H
   have A45 := aM A450
   clear A450
   replace H := Option.bind_eq_some_iff.mp H
   obtain ⟨⟨t182, t183, t184⟩, A460, H⟩ := H
   replace H : ((spec_l02Move.f k1 x5_1 (wrap64 ((wrap64 (3 * t179)) - 6)) (wrap64 ((wrap64 (3 * t182)) - 6))).bind fun t185 => ((spec_l01Next.f s0_0 t183 t184 (t185.length : Int)).bind fun bt188 => ((spec_l01Next.f s0_0 bt188.2.1 bt188.2.2 24).bind fun bt191 => (if bt191.1 = 0 then (if 0 ≤ bt188.1 then (if bt188.1 < (t185.length : Int) then (some ((t185.set (bt188.1 : Int).toNat (⟨wrap64 (((rd_T59 t185 bt188.1).f0) + 1), (rd_T59 t185 bt188.1).f1⟩ : S59)), bt191.2.1, bt191.2.2)) else (none)) else (none)) else (if bt191.1 = 1 then (if 0 ≤ bt188.1 then (if bt188.1 < (t185.length : Int) then (if 0 ≤ (wrap64 ((t185.length : Int) - 1)) then (if (wrap64 ((t185.length : Int) - 1)) < (t185.length : Int) then (if t185.length < 8796093022208 then (some ((t185 ++ [(⟨(rd_T59 t185 bt188.1).f0, wrap64 (((rd_T59 t185 (wrap64 ((t185.length : Int) - 1))).f1) + 6)⟩ : S59)]), bt191.2.1, bt191.2.2)) else (none)) else (none)) else (none)) else (none)) else (none)) else (if bt191.1 = 2 then (some (([] : List (S59)), bt191.2.1, bt191.2.2)) else (if bt191.1 = 3 then (if 0 < (t185.length : Int) then ((spec_l02Move.f k1 t185 (wrap64 ((wrap64 (90 - ((rd_T59 t185 0).f0))) + ((rd_T59 t185 0).f1))) 90).bind fun t203 => (some (t203, bt191.2.1, bt191.2.2))) else (none)) else (some (t185, bt191.2.1, bt191.2.2))))))))) = some (r1, r2, r3) := H
   have A46 := aM A460
   clear A460
   replace H := Option.bind_eq_some_iff.mp H
   obtain ⟨t185, A470, H⟩ := H
   replace H : ((spec_l01Next.f s0_0 t183 t184 (t185.length : Int)).bind fun bt188 => ((spec_l01Next.f s0_0 bt188.2.1 bt188.2.2 24).bind fun bt191 => (if bt191.1 = 0 then (if 0 ≤ bt188.1 then (if bt188.1 < (t185.length : Int) then (some ((t185.set (bt188.1 : Int).toNat (⟨wrap64 (((rd_T59 t185 bt188.1).f0) + 1), (rd_T59 t185 bt188.1).f1⟩ : S59)), bt191.2.1, bt191.2.2)) else (none)) else (none)) else (if bt191.1 = 1 then (if 0 ≤ bt188.1 then (if bt188.1 < (t185.length : Int) then (if 0 ≤ (wrap64 ((t185.length : Int) - 1)) then (if (wrap64 ((t185.length : Int) - 1)) < (t185.length : Int) then (if t185.length < 8796093022208 then (some ((t185 ++ [(⟨(rd_T59 t185 bt188.1).f0, wrap64 (((rd_T59 t185 (wrap64 ((t185.length : Int) - 1))).f1) + 6)⟩ : S59)]), bt191.2.1, bt191.2.2)) else (none)) else (none)) else (none)) else (none)) else (none)) else (if bt191.1 = 2 then (some (([] : List (S59)), bt191.2.1, bt191.2.2)) else (if bt191.1 = 3 then (if 0 < (t185.length : Int) then ((spec_l02Move.f k1 t185 (wrap64 ((wrap64 (90 - ((rd_T59 t185 0).f0))) + ((rd_T59 t185 0).f1))) 90).bind fun t203 => (some (t203, bt191.2.1, bt191.2.2))) else (none)) else (some (t185, bt191.2.1, bt191.2.2)))))))) = some (r1, r2, r3) := H
   have A47 := aM A470
   clear A470
   replace H := Option.bind_eq_some_iff.mp H
   obtain ⟨⟨t188, t189, t190⟩, A480, H⟩ := H
   replace H : ((spec_l01Next.f s0_0 t189 t190 24).bind fun bt191 => (if bt191.1 = 0 then (if 0 ≤ t188 then (if t188 < (t185.length : Int) then (some ((t185.set (t188 : Int).toNat (⟨wrap64 (((rd_T59 t185 t188).f0) + 1), (rd_T59 t185 t188).f1⟩ : S59)), bt191.2.1, bt191.2.2)) else (none)) else (none)) else (if bt191.1 = 1 then (if 0 ≤ t188 then (if t188 < (t185.length : Int) then (if 0 ≤ (wrap64 ((t185.length : Int) - 1)) then (if (wrap64 ((t185.length : Int) - 1)) < (t185.length : Int) then (if t185.length < 8796093022208 then (some ((t185 ++ [(⟨(rd_T59 t185 t188).f0, wrap64 (((rd_T59 t185 (wrap64 ((t185.length : Int) - 1))).f1) + 6)⟩ : S59)]), bt191.2.1, bt191.2.2)) else (none)) else (none)) else (none)) else (none)) else (none)) else (if bt191.1 = 2 then (some (([] : List (S59)), bt191.2.1, bt191.2.2)) else (if bt191.1 = 3 then (if 0 < (t185.length : Int) then ((spec_l02Move.f k1 t185 (wrap64 ((wrap64 (90 - ((rd_T59 t185 0).f0))) + ((rd_T59 t185 0).f1))) 90).bind fun t203 => (some (t203, bt191.2.1, bt191.2.2))) else (none)) else (some (t185, bt191.2.1, bt191.2.2))))))) = some (r1, r2, r3) := H
   have A48 := aM A480
   clear A480
   replace H := Option.bind_eq_some_iff.mp H
   obtain ⟨⟨t191, t192, t193⟩, A490, H⟩ := H
   replace H : (if t191 = 0 then (if 0 ≤ t188 then (if t188 < (t185.length : Int) then (some ((t185.set (t188 : Int).toNat (⟨wrap64 (((rd_T59 t185 t188).f0) + 1), (rd_T59 t185 t188).f1⟩ : S59)), t192, t193)) else (none)) else (none)) else (if t191 = 1 then (if 0 ≤ t188 then (if t188 < (t185.length : Int) then (if 0 ≤ (wrap64 ((t185.length : Int) - 1)) then (if (wrap64 ((t185.length : Int) - 1)) < (t185.length : Int) then (if t185.length < 8796093022208 then (some ((t185 ++ [(⟨(rd_T59 t185 t188).f0, wrap64 (((rd_T59 t185 (wrap64 ((t185.length : Int) - 1))).f1) + 6)⟩ : S59)]), t192, t193)) else (none)) else (none)) else (none)) else (none)) else (none)) else (if t191 = 2 then (some (([] : List (S59)), t192, t193)) else (if t191 = 3 then (if 0 < (t185.length : Int) then ((spec_l02Move.f k1 t185 (wrap64 ((wrap64 (90 - ((rd_T59 t185 0).f0))) + ((rd_T59 t185 0).f1))) 90).bind fun t203 => (some (t203, t192, t193))) else (none)) else (some (t185, t192, t193)))))) = some (r1, r2, r3) := H
   have A49 := aM A490
   clear A490
   by_cases c50 : t191 = 0
   ·rw [if_pos c50] at H
    have c50b0 : (t191 == 0) = true := beq_iff_eq.mpr c50
    have c50b1 : (t191 != 0) = false := bne_eq_false_iff_eq.mpr c50
    clear c50
    by_cases c51 : 0 ≤ t188
    rotate_left
    ·rw [if_neg c51] at H
     exact absurd H (by simp)
    rw [if_pos c51] at H
    have c51b0 : decide (0 ≤ t188) = true := decide_eq_true c51
    clear c51
    by_cases c52 : t188 < (t185.length : Int)
    rotate_left
    ·rw [if_neg c52] at H
     exact absurd H (by simp)
    rw [if_pos c52] at H
    have c52b0 : decide (t188 < (t185.length : Int)) = true := decide_eq_true c52
    clear c52
    obtain ⟨y195, hy195⟩ : ∃ y_ : List (S59), y_ = (t185.set (t188 : Int).toNat (⟨wrap64 (((rd_T59 t185 t188).f0) + 1), (rd_T59 t185 t188).f1⟩ : S59)) := ⟨_, rfl⟩
    replace H : (some (y195, t192, t193)) = some (r1, r2, r3) := zy H hy195
    have Ny195 := aM hy195
    clear hy195
    simp only [Option.some.injEq, Prod.mk.injEq] at H
    obtain ⟨rfl, rfl, rfl⟩ := H
    go_wp2_with (first | ((with_reducible refine gate_callee (f := 60) rfl ?_); refine goesL_ (some 53) rfl rfl Try.func60 (by kernel_rfl) rfl #[.pointer (some ⟨g, 0, none⟩), .int .i64 5] rfl zm ?_; (with_reducible refine (spec_l01Next.calls g s0_0 x1001_1 x1002_1 5 t179 t180 t181 w0 _ ?side1 ?side2 A45.out).mono ?_); (case side1 => exact zI75 HI0.out); (case side2 => exact zs (IsS75.ge HI0.out)); rintro e w54 ⟨rfl, hi, hb, hk⟩; refine ⟨_, rfl, ?_⟩; have n0_ := aM (Kd.R_mono (Kd.R_keep (IsS75.apart (show IsS75 w0 _ g s0_0 x1001_1 x1002_1 from zI75 HI0.out) (mR_ HO_5.out) (by decide)) hk (fun _ h => h.2)) (fun _ h => h.1)); have n1_ := aM (KeepBut.trans (zK HK.out) hk (.inl rfl)); have n2_ := aM (hb); have n3_ := aM (hi); clear HO_5 HK HB HI0; have HO_5 := n0_; have HK := n1_; have HB := n2_; have HI0 := n3_; clear n0_ n1_ n2_ n3_; (try clear hb); (try clear hb2); (try clear hk); (try clear hi)) | ((with_reducible refine gate_callee (f := 60) rfl ?_); refine goesL_ (some 57) rfl rfl Try.func60 (by kernel_rfl) rfl #[.pointer (some ⟨g, 0, none⟩), .int .i64 5] rfl zm ?_; (with_reducible refine (spec_l01Next.calls g s0_0 t180 t181 5 t182 t183 t184 w0 _ ?side1 ?side2 A46.out).mono ?_); (case side1 => exact zI75 HI0.out); (case side2 => exact zs (IsS75.ge HI0.out)); rintro e w55 ⟨rfl, hi, hb, hk⟩; refine ⟨_, rfl, ?_⟩; have n0_ := aM (Kd.R_mono (Kd.R_keep (IsS75.apart (show IsS75 w0 _ g s0_0 t180 t181 from zI75 HI0.out) (mR_ HO_5.out) (by decide)) hk (fun _ h => h.2)) (fun _ h => h.1)); have n1_ := aM (KeepBut.trans (zK HK.out) hk (.inl rfl)); have n2_ := aM (hb); have n3_ := aM (hi); clear HO_5 HK HB HI0; have HO_5 := n0_; have HK := n1_; have HB := n2_; have HI0 := n3_; clear n0_ n1_ n2_ n3_; (try clear hb); (try clear hb2); (try clear hk); (try clear hi); obtain ⟨Ao56, co56, eo56⟩ := Kd.R_slice HO_5.out; subst eo56) | ((with_reducible refine gate_callee (f := 62) rfl ?_); refine goesL_ (some 60) rfl rfl Try.func62 (by kernel_rfl) rfl #[.slice Ao56 x5_1.length co56, .int .i64 (wrap64 ((wrap64 (3 * t179)) - 6)), .int .i64 (wrap64 ((wrap64 (3 * t182)) - 6))] rfl zm ?_; (with_reducible refine (spec_l02Move.calls k1 _ _ x5_1 (wrap64 ((wrap64 (3 * t179)) - 6)) (wrap64 ((wrap64 (3 * t182)) - 6)) t185 _ ?side1 ?side2 A47.out).mono ?_); (case side1 => exact zc HO_5.out); (case side2 => exact (Kd.R_reads' HO_5.out).2.1); rintro e w57 ⟨v186, rfl, ho0, hb⟩; refine ⟨_, rfl, ?_⟩; have n0_ := aM (Kd.R_elder' (mR_ HO_5.out) (Kd.R_base ho0) hb); have n1_ := aM (Kd.R_lower (Kd.R_new' ho0 (Kd.R_lt (mR_ HO_5.out))) (keep_size (w := w) (g := g) (row := none) (zK HK.out))); have n2_ := aM (IsS75.below (zI75 HI0.out) hb); have n3_ := aM (KeepBut.trans (zK HK.out) (KeepBut.of_below hb g none) (.inl rfl)); have n4_ := aM (below_step (zs (IsS75.ge HI0.out)) hb); clear HO_5 HI0 HK HB; have HO_5 := n0_; have HO187 := n1_; have HI0 := n2_; have HK := n3_; have HB := n4_; clear n0_ n1_ n2_ n3_ n4_; (try clear hb); (try clear hb2); (try clear hk); (try clear hi); (try clear ho0); obtain ⟨Ao58, co58, eo58⟩ := Kd.R_slice HO187.out; subst eo58) | ((with_reducible refine gate_callee (f := 60) rfl ?_); refine goesL_ (some 64) rfl rfl Try.func60 (by kernel_rfl) rfl #[.pointer (some ⟨g, 0, none⟩), .int .i64 (t185.length : Int)] rfl zm ?_; (with_reducible refine (spec_l01Next.calls g s0_0 t183 t184 (t185.length : Int) t188 t189 t190 w0 _ ?side1 ?side2 A48.out).mono ?_); (case side1 => exact zI75 HI0.out); (case side2 => exact zs (IsS75.ge HI0.out)); rintro e w59 ⟨rfl, hi, hb, hk⟩; refine ⟨_, rfl, ?_⟩; have n0_ := aM (Kd.R_mono (Kd.R_keep (IsS75.apart (show IsS75 w0 _ g s0_0 t183 t184 from zI75 HI0.out) (mR_ HO_5.out) (by decide)) hk (fun _ h => h.2)) (fun _ h => h.1)); have n1_ := aM (Kd.R_mono (Kd.R_keep (IsS75.apart (show IsS75 w0 _ g s0_0 t183 t184 from zI75 HI0.out) (mR_ HO187.out) (by decide)) hk (fun _ h => h.2)) (fun _ h => h.1)); have n2_ := aM (KeepBut.trans (zK HK.out) hk (.inl rfl)); have n3_ := aM (hb); have n4_ := aM (hi); clear HO_5 HO187 HK HB HI0; have HO_5 := n0_; have HO187 := n1_; have HK := n2_; have HB := n3_; have HI0 := n4_; clear n0_ n1_ n2_ n3_ n4_; (try clear hb); (try clear hb2); (try clear hk); (try clear hi)) | ((with_reducible refine gate_callee (f := 60) rfl ?_); refine goesL_ (some 66) rfl rfl Try.func60 (by kernel_rfl) rfl #[.pointer (some ⟨g, 0, none⟩), .int .i64 24] rfl zm ?_; (with_reducible refine (spec_l01Next.calls g s0_0 t189 t190 24 t191 t192 t193 w0 _ ?side1 ?side2 A49.out).mono ?_); (case side1 => exact zI75 HI0.out); (case side2 => exact zs (IsS75.ge HI0.out)); rintro e w60 ⟨rfl, hi, hb, hk⟩; refine ⟨_, rfl, ?_⟩; have n0_ := aM (Kd.R_mono (Kd.R_keep (IsS75.apart (show IsS75 w0 _ g s0_0 t189 t190 from zI75 HI0.out) (mR_ HO_5.out) (by decide)) hk (fun _ h => h.2)) (fun _ h => h.1)); have n1_ := aM (Kd.R_mono (Kd.R_keep (IsS75.apart (show IsS75 w0 _ g s0_0 t189 t190 from zI75 HI0.out) (mR_ HO187.out) (by decide)) hk (fun _ h => h.2)) (fun _ h => h.1)); have n2_ := aM (KeepBut.trans (zK HK.out) hk (.inl rfl)); have n3_ := aM (hb); have n4_ := aM (hi); clear HO_5 HO187 HK HB HI0; have HO_5 := n0_; have HO187 := n1_; have HK := n2_; have HB := n3_; have HI0 := n4_; clear n0_ n1_ n2_ n3_ n4_; (try clear hb); (try clear hb2); (try clear hk); (try clear hi); have p194 : 0 ≤ (t188 : Int) := of_decide_eq_true za; have q194 : t188 < (t185.length : Int) := of_decide_eq_true za; obtain ⟨ad194, e194, hx194_0, hx194_1⟩ := at_T59 (Kd.R_reads' HO187.out).2.2 t188 p194 q194; cases e194; replace p194 := eq_true p194; replace q194 := eq_true q194; have p53 : 0 ≤ (t188 : Int) := of_decide_eq_true za; have q53 : (t188 : Int) < ((t185.length : Int) : Int) := of_decide_eq_true za; obtain ⟨go53, co53, eo53, gb53, gl53, cl53, HG53⟩ := Kd.R_form HO187.out (by omega); (first | cases eo53 | (injection eo53 with ea_ en_ ec_; (first | subst ea_ | (injection ea_ with ea_; subst ea_)); subst ec_; clear en_)); have GB53 := aM gb53; have GG53 := aM HG53; clear gb53 gl53 HG53; (first | simp only [add_plain] at hx194_0 | skip); (first | simp only [add_plain] at hx194_1 | skip); obtain ⟨ce53, hcl53, hM53, hcc53, hfr53⟩ := Kd.R_elem HO187.out z59 (t188 : Int) p53 q53; obtain rfl := k59_openM hM53; have hx53_0 : w60.cell? ⟨go53, (t188 : Int).toNat * 2, none⟩ = some (.int .i64 ((rd_T59 t185 t188).f0)) := hcc53 0 _ rfl; have hx53_1 : w60.cell? ⟨go53, (t188 : Int).toNat * 2 + 1, none⟩ = some (.int .i64 ((rd_T59 t185 t188).f1)) := hcc53 1 _ rfl; have hf53_0 : w60.frozen? ⟨go53, (t188 : Int).toNat * 2, none⟩ = false := hfr53 0; have hf53_1 : w60.frozen? ⟨go53, (t188 : Int).toNat * 2 + 1, none⟩ = false := hfr53 1; clear hcl53 hcc53 hfr53 hM53; replace p53 := eq_true p53; replace q53 := eq_true q53; have n_ := aM (Kd.R_mono (ok' := (fun k_ => some k_ ≠ (.slice Ao56 x5_1.length co56 : Value).ownBlock)) HO187.out (fun k_ hk => hk.2)); clear HO187; have HO187 := n_; clear n_; have HX61 := aM (show Kd.R k59 59 w60 w.heap.size (fun k_ => some k_ ≠ (.slice Ao56 x5_1.length co56 : Value).ownBlock) (.slice (some ⟨go53, 0, none⟩) t185.length co58) t185 from (mR_ HO187.out)); obtain ⟨ce61, hcl61, hM61, hcc61, hfr61⟩ := Kd.R_elem HX61.out z59 (t188 : Int) (of_decide_eq_true za) (by have h_ : (t188 : Int) < ((t185.length : Int) : Int) := of_decide_eq_true za; first | exact h_ | (have e_ := (Kd.R_reads' HO187.out).1; omega) | simpa using h_); obtain rfl := k59_openM hM61; have HP61 := Kd.R_seg HX61.out (t188 : Int) (of_decide_eq_true za) (by have h_ : (t188 : Int) < ((t185.length : Int) : Int) := of_decide_eq_true za; first | exact h_ | (have e_ := (Kd.R_reads' HO187.out).1; omega) | simpa using h_) (seg := [.int .i64 (wrap64 (((rd_T59 t185 t188).f0) + 1))]) (j := 0) hcl61 hcc61 (show 1 ≤ 2 from by decide) (x' := (⟨wrap64 (((rd_T59 t185 t188).f0) + 1), (rd_T59 t185 t188).f1⟩ : S59)) (k59_mkM _ _ _ (⟨wrap64 (((rd_T59 t185 t188).f0) + 1), (rd_T59 t185 t188).f1⟩ : S59) ) (fun _ hk => hk); have hx61_0 := hcc61 0 _ rfl; (try simp only [show (k59).sz = 2 from rfl, Nat.mul_one, Nat.add_zero] at hx61_0); have hf61_0 := hfr61 0; (try simp only [show (k59).sz = 2 from rfl, Nat.mul_one, Nat.add_zero] at hf61_0); clear hcl61 hcc61 hfr61 hM61) | ((with_reducible refine gate_store (t := 2) (p := 78) rfl ?_); refine store_event (t := 2) (p := 78) (v := ?vo_w62) (w1 := (w60.setCell ⟨go53, (t188 : Int).toNat * 2, none⟩ (.int .i64 (wrap64 (((rd_T59 t185 t188).f0) + 1))))) ?hg ?ho ?hn ?hr ?_; (case ho => rfl); (case hg => rfl); (case hn => rfl); (case hr => first | (go_simp; done) | (go_simp; rfl)); intro w62 hw; have hg : w60.grownBy w62 (some go53) := (by rw [hw]; exact HP61.2); have hp_ : Kd.R k59 59 w62 w.heap.size (fun k_ => some k_ ≠ (.slice Ao56 x5_1.length co56 : Value).ownBlock) (.slice (some ⟨go53, 0, none⟩) t185.length co58) y195 := (by rw [hw, Ny195.out]; exact HP61.1); clear HP61; have n0_ := aM (Kd.R_after (v := (.slice (some ⟨go53, 0, none⟩) t185.length co58)) (v1 := (.slice (some ⟨go53, 0, none⟩) t185.length co58)) (ok := (fun _ => True)) (mR_ HO_5.out) hg (.inl rfl)); have n1_ := aM (IsS75.grown (zI75 HI0.out) hg (IsS75.own_ne HI0.out HO187.out (by decide))); have n2_ := aM (hp_); have n3_ := aM ((by rw [hw]; exact below_set (HB.out) (Nat.le_trans HL.out GB53.out) : Below w0.heap.size w0 w62)); have n4_ := aM (KeepBut.trans (zK HK.out) (KeepBut.of_grown hg g) (Kd.R_base2 HO187.out)); clear HO_5 HI0 HO187 HB HK; have HO_5 := n0_; have HI0 := n1_; have HO187 := n2_; have HB := n3_; have HK := n4_; clear n0_ n1_ n2_ n3_ n4_; clear hg hw hp_))
    go_ret
    exact ⟨_, zw, zd0 HO187.out, zI75 HI0.out, zs (IsS75.ge HI0.out), zK HK.out⟩
   rw [if_neg c50] at H
   have c50b0 : (t191 == 0) = false := beq_eq_false_iff_ne.mpr c50
   have c50b1 : (t191 != 0) = true := bne_iff_ne.mpr c50
   by_cases c63 : t191 = 1
   rotate_left
   ·rw [if_neg c63] at H
    have c63b0 : (t191 == 1) = false := beq_eq_false_iff_ne.mpr c63
    have c63b1 : (t191 != 1) = true := bne_iff_ne.mpr c63
    by_cases c79 : t191 = 2
    ·rw [if_pos c79] at H
     have c79b0 : (t191 == 2) = true := beq_iff_eq.mpr c79
     have c79b1 : (t191 != 2) = false := bne_eq_false_iff_eq.mpr c79
     clear c79
     simp only [Option.some.injEq, Prod.mk.injEq] at H
     obtain ⟨rfl, rfl, rfl⟩ := H
     go_wp2_with (first | ((with_reducible refine gate_callee (f := 60) rfl ?_); refine goesL_ (some 53) rfl rfl Try.func60 (by kernel_rfl) rfl #[.pointer (some ⟨g, 0, none⟩), .int .i64 5] rfl zm ?_; (with_reducible refine (spec_l01Next.calls g s0_0 x1001_1 x1002_1 5 t179 t180 t181 w0 _ ?side1 ?side2 A45.out).mono ?_); (case side1 => exact zI75 HI0.out); (case side2 => exact zs (IsS75.ge HI0.out)); rintro e w80 ⟨rfl, hi, hb, hk⟩; refine ⟨_, rfl, ?_⟩; have n0_ := aM (Kd.R_mono (Kd.R_keep (IsS75.apart (show IsS75 w0 _ g s0_0 x1001_1 x1002_1 from zI75 HI0.out) (mR_ HO_5.out) (by decide)) hk (fun _ h => h.2)) (fun _ h => h.1)); have n1_ := aM (KeepBut.trans (zK HK.out) hk (.inl rfl)); have n2_ := aM (hb); have n3_ := aM (hi); clear HO_5 HK HB HI0; have HO_5 := n0_; have HK := n1_; have HB := n2_; have HI0 := n3_; clear n0_ n1_ n2_ n3_; (try clear hb); (try clear hb2); (try clear hk); (try clear hi)) | ((with_reducible refine gate_callee (f := 60) rfl ?_); refine goesL_ (some 57) rfl rfl Try.func60 (by kernel_rfl) rfl #[.pointer (some ⟨g, 0, none⟩), .int .i64 5] rfl zm ?_; (with_reducible refine (spec_l01Next.calls g s0_0 t180 t181 5 t182 t183 t184 w0 _ ?side1 ?side2 A46.out).mono ?_); (case side1 => exact zI75 HI0.out); (case side2 => exact zs (IsS75.ge HI0.out)); rintro e w81 ⟨rfl, hi, hb, hk⟩; refine ⟨_, rfl, ?_⟩; have n0_ := aM (Kd.R_mono (Kd.R_keep (IsS75.apart (show IsS75 w0 _ g s0_0 t180 t181 from zI75 HI0.out) (mR_ HO_5.out) (by decide)) hk (fun _ h => h.2)) (fun _ h => h.1)); have n1_ := aM (KeepBut.trans (zK HK.out) hk (.inl rfl)); have n2_ := aM (hb); have n3_ := aM (hi); clear HO_5 HK HB HI0; have HO_5 := n0_; have HK := n1_; have HB := n2_; have HI0 := n3_; clear n0_ n1_ n2_ n3_; (try clear hb); (try clear hb2); (try clear hk); (try clear hi); obtain ⟨Ao82, co82, eo82⟩ := Kd.R_slice HO_5.out; subst eo82) | ((with_reducible refine gate_callee (f := 62) rfl ?_); refine goesL_ (some 60) rfl rfl Try.func62 (by kernel_rfl) rfl #[.slice Ao82 x5_1.length co82, .int .i64 (wrap64 ((wrap64 (3 * t179)) - 6)), .int .i64 (wrap64 ((wrap64 (3 * t182)) - 6))] rfl zm ?_; (with_reducible refine (spec_l02Move.calls k1 _ _ x5_1 (wrap64 ((wrap64 (3 * t179)) - 6)) (wrap64 ((wrap64 (3 * t182)) - 6)) t185 _ ?side1 ?side2 A47.out).mono ?_); (case side1 => exact zc HO_5.out); (case side2 => exact (Kd.R_reads' HO_5.out).2.1); rintro e w83 ⟨v186, rfl, ho0, hb⟩; refine ⟨_, rfl, ?_⟩; have n0_ := aM (Kd.R_elder' (mR_ HO_5.out) (Kd.R_base ho0) hb); have n1_ := aM (Kd.R_lower (Kd.R_new' ho0 (Kd.R_lt (mR_ HO_5.out))) (keep_size (w := w) (g := g) (row := none) (zK HK.out))); have n2_ := aM (IsS75.below (zI75 HI0.out) hb); have n3_ := aM (KeepBut.trans (zK HK.out) (KeepBut.of_below hb g none) (.inl rfl)); have n4_ := aM (below_step (zs (IsS75.ge HI0.out)) hb); clear HO_5 HI0 HK HB; have HO_5 := n0_; have HO187 := n1_; have HI0 := n2_; have HK := n3_; have HB := n4_; clear n0_ n1_ n2_ n3_ n4_; (try clear hb); (try clear hb2); (try clear hk); (try clear hi); (try clear ho0); obtain ⟨Ao84, co84, eo84⟩ := Kd.R_slice HO187.out; subst eo84) | ((with_reducible refine gate_callee (f := 60) rfl ?_); refine goesL_ (some 64) rfl rfl Try.func60 (by kernel_rfl) rfl #[.pointer (some ⟨g, 0, none⟩), .int .i64 (t185.length : Int)] rfl zm ?_; (with_reducible refine (spec_l01Next.calls g s0_0 t183 t184 (t185.length : Int) t188 t189 t190 w0 _ ?side1 ?side2 A48.out).mono ?_); (case side1 => exact zI75 HI0.out); (case side2 => exact zs (IsS75.ge HI0.out)); rintro e w85 ⟨rfl, hi, hb, hk⟩; refine ⟨_, rfl, ?_⟩; have n0_ := aM (Kd.R_mono (Kd.R_keep (IsS75.apart (show IsS75 w0 _ g s0_0 t183 t184 from zI75 HI0.out) (mR_ HO_5.out) (by decide)) hk (fun _ h => h.2)) (fun _ h => h.1)); have n1_ := aM (Kd.R_mono (Kd.R_keep (IsS75.apart (show IsS75 w0 _ g s0_0 t183 t184 from zI75 HI0.out) (mR_ HO187.out) (by decide)) hk (fun _ h => h.2)) (fun _ h => h.1)); have n2_ := aM (KeepBut.trans (zK HK.out) hk (.inl rfl)); have n3_ := aM (hb); have n4_ := aM (hi); clear HO_5 HO187 HK HB HI0; have HO_5 := n0_; have HO187 := n1_; have HK := n2_; have HB := n3_; have HI0 := n4_; clear n0_ n1_ n2_ n3_ n4_; (try clear hb); (try clear hb2); (try clear hk); (try clear hi)) | ((with_reducible refine gate_callee (f := 60) rfl ?_); refine goesL_ (some 66) rfl rfl Try.func60 (by kernel_rfl) rfl #[.pointer (some ⟨g, 0, none⟩), .int .i64 24] rfl zm ?_; (with_reducible refine (spec_l01Next.calls g s0_0 t189 t190 24 t191 t192 t193 w0 _ ?side1 ?side2 A49.out).mono ?_); (case side1 => exact zI75 HI0.out); (case side2 => exact zs (IsS75.ge HI0.out)); rintro e w86 ⟨rfl, hi, hb, hk⟩; refine ⟨_, rfl, ?_⟩; have n0_ := aM (Kd.R_mono (Kd.R_keep (IsS75.apart (show IsS75 w0 _ g s0_0 t189 t190 from zI75 HI0.out) (mR_ HO_5.out) (by decide)) hk (fun _ h => h.2)) (fun _ h => h.1)); have n1_ := aM (Kd.R_mono (Kd.R_keep (IsS75.apart (show IsS75 w0 _ g s0_0 t189 t190 from zI75 HI0.out) (mR_ HO187.out) (by decide)) hk (fun _ h => h.2)) (fun _ h => h.1)); have n2_ := aM (KeepBut.trans (zK HK.out) hk (.inl rfl)); have n3_ := aM (hb); have n4_ := aM (hi); clear HO_5 HO187 HK HB HI0; have HO_5 := n0_; have HO187 := n1_; have HK := n2_; have HB := n3_; have HI0 := n4_; clear n0_ n1_ n2_ n3_ n4_; (try clear hb); (try clear hb2); (try clear hk); (try clear hi)))
     go_ret
     exact ⟨_, zw, by first | exact Kd.R_nil _ _ _ _ _ | exact Kd.N_nil _ _ _ _ _ | exact Kd.V_nil _ _ _ _ _ | exact Kd.Q_nil _ _ _ _ _ | exact Kd.S_nil _ _ _ _ _, zI75 HI0.out, zs (IsS75.ge HI0.out), zK HK.out⟩
    rw [if_neg c79] at H
    have c79b0 : (t191 == 2) = false := beq_eq_false_iff_ne.mpr c79
    have c79b1 : (t191 != 2) = true := bne_iff_ne.mpr c79
    by_cases c87 : t191 = 3
    rotate_left
    ·rw [if_neg c87] at H
     have c87b0 : (t191 == 3) = false := beq_eq_false_iff_ne.mpr c87
     have c87b1 : (t191 != 3) = true := bne_iff_ne.mpr c87
     simp only [Option.some.injEq, Prod.mk.injEq] at H
     obtain ⟨rfl, rfl, rfl⟩ := H
     go_wp2_with (first | ((with_reducible refine gate_callee (f := 60) rfl ?_); refine goesL_ (some 53) rfl rfl Try.func60 (by kernel_rfl) rfl #[.pointer (some ⟨g, 0, none⟩), .int .i64 5] rfl zm ?_; (with_reducible refine (spec_l01Next.calls g s0_0 x1001_1 x1002_1 5 t179 t180 t181 w0 _ ?side1 ?side2 A45.out).mono ?_); (case side1 => exact zI75 HI0.out); (case side2 => exact zs (IsS75.ge HI0.out)); rintro e w99 ⟨rfl, hi, hb, hk⟩; refine ⟨_, rfl, ?_⟩; have n0_ := aM (Kd.R_mono (Kd.R_keep (IsS75.apart (show IsS75 w0 _ g s0_0 x1001_1 x1002_1 from zI75 HI0.out) (mR_ HO_5.out) (by decide)) hk (fun _ h => h.2)) (fun _ h => h.1)); have n1_ := aM (KeepBut.trans (zK HK.out) hk (.inl rfl)); have n2_ := aM (hb); have n3_ := aM (hi); clear HO_5 HK HB HI0; have HO_5 := n0_; have HK := n1_; have HB := n2_; have HI0 := n3_; clear n0_ n1_ n2_ n3_; (try clear hb); (try clear hb2); (try clear hk); (try clear hi)) | ((with_reducible refine gate_callee (f := 60) rfl ?_); refine goesL_ (some 57) rfl rfl Try.func60 (by kernel_rfl) rfl #[.pointer (some ⟨g, 0, none⟩), .int .i64 5] rfl zm ?_; (with_reducible refine (spec_l01Next.calls g s0_0 t180 t181 5 t182 t183 t184 w0 _ ?side1 ?side2 A46.out).mono ?_); (case side1 => exact zI75 HI0.out); (case side2 => exact zs (IsS75.ge HI0.out)); rintro e w100 ⟨rfl, hi, hb, hk⟩; refine ⟨_, rfl, ?_⟩; have n0_ := aM (Kd.R_mono (Kd.R_keep (IsS75.apart (show IsS75 w0 _ g s0_0 t180 t181 from zI75 HI0.out) (mR_ HO_5.out) (by decide)) hk (fun _ h => h.2)) (fun _ h => h.1)); have n1_ := aM (KeepBut.trans (zK HK.out) hk (.inl rfl)); have n2_ := aM (hb); have n3_ := aM (hi); clear HO_5 HK HB HI0; have HO_5 := n0_; have HK := n1_; have HB := n2_; have HI0 := n3_; clear n0_ n1_ n2_ n3_; (try clear hb); (try clear hb2); (try clear hk); (try clear hi); obtain ⟨Ao101, co101, eo101⟩ := Kd.R_slice HO_5.out; subst eo101) | ((with_reducible refine gate_callee (f := 62) rfl ?_); refine goesL_ (some 60) rfl rfl Try.func62 (by kernel_rfl) rfl #[.slice Ao101 x5_1.length co101, .int .i64 (wrap64 ((wrap64 (3 * t179)) - 6)), .int .i64 (wrap64 ((wrap64 (3 * t182)) - 6))] rfl zm ?_; (with_reducible refine (spec_l02Move.calls k1 _ _ x5_1 (wrap64 ((wrap64 (3 * t179)) - 6)) (wrap64 ((wrap64 (3 * t182)) - 6)) t185 _ ?side1 ?side2 A47.out).mono ?_); (case side1 => exact zc HO_5.out); (case side2 => exact (Kd.R_reads' HO_5.out).2.1); rintro e w102 ⟨v186, rfl, ho0, hb⟩; refine ⟨_, rfl, ?_⟩; have n0_ := aM (Kd.R_elder' (mR_ HO_5.out) (Kd.R_base ho0) hb); have n1_ := aM (Kd.R_lower (Kd.R_new' ho0 (Kd.R_lt (mR_ HO_5.out))) (keep_size (w := w) (g := g) (row := none) (zK HK.out))); have n2_ := aM (IsS75.below (zI75 HI0.out) hb); have n3_ := aM (KeepBut.trans (zK HK.out) (KeepBut.of_below hb g none) (.inl rfl)); have n4_ := aM (below_step (zs (IsS75.ge HI0.out)) hb); clear HO_5 HI0 HK HB; have HO_5 := n0_; have HO187 := n1_; have HI0 := n2_; have HK := n3_; have HB := n4_; clear n0_ n1_ n2_ n3_ n4_; (try clear hb); (try clear hb2); (try clear hk); (try clear hi); (try clear ho0); obtain ⟨Ao103, co103, eo103⟩ := Kd.R_slice HO187.out; subst eo103) | ((with_reducible refine gate_callee (f := 60) rfl ?_); refine goesL_ (some 64) rfl rfl Try.func60 (by kernel_rfl) rfl #[.pointer (some ⟨g, 0, none⟩), .int .i64 (t185.length : Int)] rfl zm ?_; (with_reducible refine (spec_l01Next.calls g s0_0 t183 t184 (t185.length : Int) t188 t189 t190 w0 _ ?side1 ?side2 A48.out).mono ?_); (case side1 => exact zI75 HI0.out); (case side2 => exact zs (IsS75.ge HI0.out)); rintro e w104 ⟨rfl, hi, hb, hk⟩; refine ⟨_, rfl, ?_⟩; have n0_ := aM (Kd.R_mono (Kd.R_keep (IsS75.apart (show IsS75 w0 _ g s0_0 t183 t184 from zI75 HI0.out) (mR_ HO_5.out) (by decide)) hk (fun _ h => h.2)) (fun _ h => h.1)); have n1_ := aM (Kd.R_mono (Kd.R_keep (IsS75.apart (show IsS75 w0 _ g s0_0 t183 t184 from zI75 HI0.out) (mR_ HO187.out) (by decide)) hk (fun _ h => h.2)) (fun _ h => h.1)); have n2_ := aM (KeepBut.trans (zK HK.out) hk (.inl rfl)); have n3_ := aM (hb); have n4_ := aM (hi); clear HO_5 HO187 HK HB HI0; have HO_5 := n0_; have HO187 := n1_; have HK := n2_; have HB := n3_; have HI0 := n4_; clear n0_ n1_ n2_ n3_ n4_; (try clear hb); (try clear hb2); (try clear hk); (try clear hi)) | ((with_reducible refine gate_callee (f := 60) rfl ?_); refine goesL_ (some 66) rfl rfl Try.func60 (by kernel_rfl) rfl #[.pointer (some ⟨g, 0, none⟩), .int .i64 24] rfl zm ?_; (with_reducible refine (spec_l01Next.calls g s0_0 t189 t190 24 t191 t192 t193 w0 _ ?side1 ?side2 A49.out).mono ?_); (case side1 => exact zI75 HI0.out); (case side2 => exact zs (IsS75.ge HI0.out)); rintro e w105 ⟨rfl, hi, hb, hk⟩; refine ⟨_, rfl, ?_⟩; have n0_ := aM (Kd.R_mono (Kd.R_keep (IsS75.apart (show IsS75 w0 _ g s0_0 t189 t190 from zI75 HI0.out) (mR_ HO_5.out) (by decide)) hk (fun _ h => h.2)) (fun _ h => h.1)); have n1_ := aM (Kd.R_mono (Kd.R_keep (IsS75.apart (show IsS75 w0 _ g s0_0 t189 t190 from zI75 HI0.out) (mR_ HO187.out) (by decide)) hk (fun _ h => h.2)) (fun _ h => h.1)); have n2_ := aM (KeepBut.trans (zK HK.out) hk (.inl rfl)); have n3_ := aM (hb); have n4_ := aM (hi); clear HO_5 HO187 HK HB HI0; have HO_5 := n0_; have HO187 := n1_; have HK := n2_; have HB := n3_; have HI0 := n4_; clear n0_ n1_ n2_ n3_ n4_; (try clear hb); (try clear hb2); (try clear hk); (try clear hi)))
     go_ret
     exact ⟨_, zw, zd0 HO187.out, zI75 HI0.out, zs (IsS75.ge HI0.out), zK HK.out⟩
    rw [if_pos c87] at H
    have c87b0 : (t191 == 3) = true := beq_iff_eq.mpr c87
    have c87b1 : (t191 != 3) = false := bne_eq_false_iff_eq.mpr c87
    clear c87
    by_cases c88 : 0 < (t185.length : Int)
    rotate_left
    ·rw [if_neg c88] at H
     exact absurd H (by simp)
    rw [if_pos c88] at H
    have c88b0 : decide (0 < (t185.length : Int)) = true := decide_eq_true c88
    have c88b1 : decide (0 < t185.length) = true := decide_eq_true (by omega)
    clear c88
    replace H := Option.bind_eq_some_iff.mp H
    obtain ⟨t203, A890, H⟩ := H
    replace H : (some (t203, t192, t193)) = some (r1, r2, r3) := H
    have A89 := aM A890
    clear A890
    simp only [Option.some.injEq, Prod.mk.injEq] at H
    obtain ⟨rfl, rfl, rfl⟩ := H
    try go_wp2_with (first | ((with_reducible refine gate_callee (f := 60) rfl ?_); refine goesL_ (some 53) rfl rfl Try.func60 (by kernel_rfl) rfl #[.pointer (some ⟨g, 0, none⟩), .int .i64 5] rfl zm ?_; (with_reducible refine (spec_l01Next.calls g s0_0 x1001_1 x1002_1 5 t179 t180 t181 w0 _ ?side1 ?side2 A45.out).mono ?_); (case side1 => exact zI75 HI0.out); (case side2 => exact zs (IsS75.ge HI0.out)); rintro e w90 ⟨rfl, hi, hb, hk⟩; refine ⟨_, rfl, ?_⟩; have n0_ := aM (Kd.R_mono (Kd.R_keep (IsS75.apart (show IsS75 w0 _ g s0_0 x1001_1 x1002_1 from zI75 HI0.out) (mR_ HO_5.out) (by decide)) hk (fun _ h => h.2)) (fun _ h => h.1)); have n1_ := aM (KeepBut.trans (zK HK.out) hk (.inl rfl)); have n2_ := aM (hb); have n3_ := aM (hi); clear HO_5 HK HB HI0; have HO_5 := n0_; have HK := n1_; have HB := n2_; have HI0 := n3_; clear n0_ n1_ n2_ n3_; (try clear hb); (try clear hb2); (try clear hk); (try clear hi)) | ((with_reducible refine gate_callee (f := 60) rfl ?_); refine goesL_ (some 57) rfl rfl Try.func60 (by kernel_rfl) rfl #[.pointer (some ⟨g, 0, none⟩), .int .i64 5] rfl zm ?_; (with_reducible refine (spec_l01Next.calls g s0_0 t180 t181 5 t182 t183 t184 w0 _ ?side1 ?side2 A46.out).mono ?_); (case side1 => exact zI75 HI0.out); (case side2 => exact zs (IsS75.ge HI0.out)); rintro e w91 ⟨rfl, hi, hb, hk⟩; refine ⟨_, rfl, ?_⟩; have n0_ := aM (Kd.R_mono (Kd.R_keep (IsS75.apart (show IsS75 w0 _ g s0_0 t180 t181 from zI75 HI0.out) (mR_ HO_5.out) (by decide)) hk (fun _ h => h.2)) (fun _ h => h.1)); have n1_ := aM (KeepBut.trans (zK HK.out) hk (.inl rfl)); have n2_ := aM (hb); have n3_ := aM (hi); clear HO_5 HK HB HI0; have HO_5 := n0_; have HK := n1_; have HB := n2_; have HI0 := n3_; clear n0_ n1_ n2_ n3_; (try clear hb); (try clear hb2); (try clear hk); (try clear hi); obtain ⟨Ao92, co92, eo92⟩ := Kd.R_slice HO_5.out; subst eo92) | ((with_reducible refine gate_callee (f := 62) rfl ?_); refine goesL_ (some 60) rfl rfl Try.func62 (by kernel_rfl) rfl #[.slice Ao92 x5_1.length co92, .int .i64 (wrap64 ((wrap64 (3 * t179)) - 6)), .int .i64 (wrap64 ((wrap64 (3 * t182)) - 6))] rfl zm ?_; (with_reducible refine (spec_l02Move.calls k1 _ _ x5_1 (wrap64 ((wrap64 (3 * t179)) - 6)) (wrap64 ((wrap64 (3 * t182)) - 6)) t185 _ ?side1 ?side2 A47.out).mono ?_); (case side1 => exact zc HO_5.out); (case side2 => exact (Kd.R_reads' HO_5.out).2.1); rintro e w93 ⟨v186, rfl, ho0, hb⟩; refine ⟨_, rfl, ?_⟩; have n0_ := aM (Kd.R_elder' (mR_ HO_5.out) (Kd.R_base ho0) hb); have n1_ := aM (Kd.R_lower (Kd.R_new' ho0 (Kd.R_lt (mR_ HO_5.out))) (keep_size (w := w) (g := g) (row := none) (zK HK.out))); have n2_ := aM (IsS75.below (zI75 HI0.out) hb); have n3_ := aM (KeepBut.trans (zK HK.out) (KeepBut.of_below hb g none) (.inl rfl)); have n4_ := aM (below_step (zs (IsS75.ge HI0.out)) hb); clear HO_5 HI0 HK HB; have HO_5 := n0_; have HO187 := n1_; have HI0 := n2_; have HK := n3_; have HB := n4_; clear n0_ n1_ n2_ n3_ n4_; (try clear hb); (try clear hb2); (try clear hk); (try clear hi); (try clear ho0); obtain ⟨Ao94, co94, eo94⟩ := Kd.R_slice HO187.out; subst eo94) | ((with_reducible refine gate_callee (f := 60) rfl ?_); refine goesL_ (some 64) rfl rfl Try.func60 (by kernel_rfl) rfl #[.pointer (some ⟨g, 0, none⟩), .int .i64 (t185.length : Int)] rfl zm ?_; (with_reducible refine (spec_l01Next.calls g s0_0 t183 t184 (t185.length : Int) t188 t189 t190 w0 _ ?side1 ?side2 A48.out).mono ?_); (case side1 => exact zI75 HI0.out); (case side2 => exact zs (IsS75.ge HI0.out)); rintro e w95 ⟨rfl, hi, hb, hk⟩; refine ⟨_, rfl, ?_⟩; have n0_ := aM (Kd.R_mono (Kd.R_keep (IsS75.apart (show IsS75 w0 _ g s0_0 t183 t184 from zI75 HI0.out) (mR_ HO_5.out) (by decide)) hk (fun _ h => h.2)) (fun _ h => h.1)); have n1_ := aM (Kd.R_mono (Kd.R_keep (IsS75.apart (show IsS75 w0 _ g s0_0 t183 t184 from zI75 HI0.out) (mR_ HO187.out) (by decide)) hk (fun _ h => h.2)) (fun _ h => h.1)); have n2_ := aM (KeepBut.trans (zK HK.out) hk (.inl rfl)); have n3_ := aM (hb); have n4_ := aM (hi); clear HO_5 HO187 HK HB HI0; have HO_5 := n0_; have HO187 := n1_; have HK := n2_; have HB := n3_; have HI0 := n4_; clear n0_ n1_ n2_ n3_ n4_; (try clear hb); (try clear hb2); (try clear hk); (try clear hi)) | ((with_reducible refine gate_callee (f := 60) rfl ?_); refine goesL_ (some 66) rfl rfl Try.func60 (by kernel_rfl) rfl #[.pointer (some ⟨g, 0, none⟩), .int .i64 24] rfl zm ?_; (with_reducible refine (spec_l01Next.calls g s0_0 t189 t190 24 t191 t192 t193 w0 _ ?side1 ?side2 A49.out).mono ?_); (case side1 => exact zI75 HI0.out); (case side2 => exact zs (IsS75.ge HI0.out)); rintro e w96 ⟨rfl, hi, hb, hk⟩; refine ⟨_, rfl, ?_⟩; have n0_ := aM (Kd.R_mono (Kd.R_keep (IsS75.apart (show IsS75 w0 _ g s0_0 t189 t190 from zI75 HI0.out) (mR_ HO_5.out) (by decide)) hk (fun _ h => h.2)) (fun _ h => h.1)); have n1_ := aM (Kd.R_mono (Kd.R_keep (IsS75.apart (show IsS75 w0 _ g s0_0 t189 t190 from zI75 HI0.out) (mR_ HO187.out) (by decide)) hk (fun _ h => h.2)) (fun _ h => h.1)); have n2_ := aM (KeepBut.trans (zK HK.out) hk (.inl rfl)); have n3_ := aM (hb); have n4_ := aM (hi); clear HO_5 HO187 HK HB HI0; have HO_5 := n0_; have HO187 := n1_; have HK := n2_; have HB := n3_; have HI0 := n4_; clear n0_ n1_ n2_ n3_ n4_; (try clear hb); (try clear hb2); (try clear hk); (try clear hi)))
    have n0_ := aM (Kd.R_drew HO_5.out)
    have n1_ := aM (Kd.R_drew HO187.out)
    have n2_ := aM (IsS75.drew HI0.out)
    have n3_ := aM (keep_drew HK.out)
    have n4_ := aM (below_drew1 HB.out)
    clear HO_5
    clear HO187
    clear HI0
    clear HK
    clear HB
    have HO_5 := n0_
    have HO187 := n1_
    have HI0 := n2_
    have HK := n3_
    have HB := n4_
    clear n0_ n1_ n2_ n3_ n4_
    have p201 : 0 ≤ (0 : Int) := (by omega)
    have q201 : 0 < (t185.length : Int) := of_decide_eq_true za
    obtain ⟨ad201, e201, hx201_0, hx201_1⟩ := at_T59 (Kd.R_reads' HO187.out).2.2 0 p201 q201
    cases e201
    have qi201 : (0 < t185.length) = True := eq_true (by omega)
    (try rw [show ((0 : Int)).toNat = 0 from rfl] at hx201_0)
    (try rw [show 0 * 2 = 0 from rfl] at hx201_0)
    (try rw [Addr.add_zero'] at hx201_0)
    (try rw [show ((0 : Int)).toNat = 0 from rfl] at hx201_1)
    (try rw [show 0 * 2 = 0 from rfl] at hx201_1)
    (try rw [Addr.add_zero'] at hx201_1)
    replace p201 := eq_true p201
    replace q201 := eq_true q201
    have p202 : 0 ≤ (0 : Int) := (by omega)
    have q202 : 0 < (t185.length : Int) := of_decide_eq_true za
    obtain ⟨ad202, e202, hx202_0, hx202_1⟩ := at_T59 (Kd.R_reads' HO187.out).2.2 0 p202 q202
    obtain rfl : ad201 = ad202 := (by injection e202)
    have qi202 : (0 < t185.length) = True := eq_true (by omega)
    (try rw [show ((0 : Int)).toNat = 0 from rfl] at hx202_0)
    (try rw [show 0 * 2 = 0 from rfl] at hx202_0)
    (try rw [Addr.add_zero'] at hx202_0)
    (try rw [show ((0 : Int)).toNat = 0 from rfl] at hx202_1)
    (try rw [show 0 * 2 = 0 from rfl] at hx202_1)
    (try rw [Addr.add_zero'] at hx202_1)
    replace p202 := eq_true p202
    replace q202 := eq_true q202
    refine start_ (n := 13) (S := fun w' => w'.cell? ad201 = some (.int .i64 ((rd_T59 t185 0).f0)) ∧ w'.cell? ⟨ad201.block, ad201.off + 1, none⟩ = some (.int .i64 ((rd_T59 t185 0).f1)) ∧ w'.cell? ad201 = some (.int .i64 ((rd_T59 t185 0).f0)) ∧ w'.cell? ⟨ad201.block, ad201.off + 1, none⟩ = some (.int .i64 ((rd_T59 t185 0).f1))) (ds := []) zA51 (by kernel_rfl) rfl rfl ⟨hx201_0, hx201_1, hx202_0, hx202_1⟩ (fun hHeld => ?_); refine with_tabW spec_l07Draw.tab20 spec_l07Draw.bits20 (fun HT_ HW_ => ?_)
    generalize w96.drew = w97 at HO_5 HO187 HI0 HK HB hx201_0 hx201_1 hx202_0 hx202_1 hHeld ⊢
    refine zp 0 (some 102) ?_ zA52 rfl rfl (Or.inl ⟨by rfl, ?_⟩) ?_ ?_ ?_
    rotate_left
    ·intro w'
     go_simp
     with_reducible rfl
    rotate_left
    ·simp only [Act.put, xA, xB, xC, i64_w, i32_w]
     rfl
    refine zp 1 (some 103) ?_ zA53 rfl rfl (Or.inl ⟨by rfl, ?_⟩) ?_ ?_ ?_
    rotate_left
    ·intro w'
     go_simp
     with_reducible rfl
    rotate_left
    ·simp only [Act.put, xA, xB, xC, i64_w, i32_w]
     rfl
    refine zp 2 (some 104) ?_ zA54 rfl rfl (Or.inl ⟨by rfl, ?_⟩) ?_ ?_ ?_
    rotate_left
    ·intro w'
     go_simp
     with_reducible rfl
    rotate_left
    ·simp only [Act.put, xA, xB, xC, i64_w, i32_w]
     rfl
    refine zp 3 (some 105) ?_ zA55 rfl rfl (Or.inl ⟨by rfl, ?_⟩) ?_ ?_ ?_
    rotate_left
    ·intro w'
     go_simp
     with_reducible rfl
    rotate_left
    ·simp only [Act.put, xA, xB, xC, i64_w, i32_w]
     rfl
    refine zp 6 (some 108) ?_ zA56 rfl rfl (Or.inl ⟨by rfl, ?_⟩) ?_ ?_ ?_
    rotate_left
    ·intro w'
     go_simp
     with_reducible rfl
    rotate_left
    ·simp only [Act.put, xA, xB, xC, i64_w, i32_w]
     rfl
    refine zp 7 (some 109) ?_ zA57 rfl rfl (Or.inl ⟨by rfl, ?_⟩) ?_ ?_ ?_
    rotate_left
    ·intro w'
     go_simp
     with_reducible rfl
    rotate_left
    ·simp only [Act.put, xA, xB, xC, i64_w, i32_w]
     rfl
    refine zp 8 (some 110) ?_ zA58 rfl rfl (Or.inl ⟨by rfl, ?_⟩) ?_ ?_ ?_
    rotate_left
    ·intro w'
     go_simp
     with_reducible rfl
    rotate_left
    ·simp only [Act.put, xA, xB, xC, i64_w, i32_w]
     rfl
    refine zu 4 (some 106) ?_ zA59 rfl rfl (Or.inl ⟨by rfl, ?_⟩) hHeld ?_ ?_ ?_
    rotate_left
    ·rintro w' ⟨s0, s1, s2, s3⟩
     go_simp
     with_reducible rfl
    rotate_left
    ·simp only [Act.put, xA, xB, xC, i64_w, i32_w]
     rfl
    refine zp 5 (some 107) ?_ zA60 rfl rfl (Or.inl ⟨by rfl, ?_⟩) ?_ ?_ ?_
    rotate_left
    ·intro w'
     go_simp
     with_reducible rfl
    rotate_left
    ·simp only [Act.put, xA, xB, xC, i64_w, i32_w]
     rfl
    refine zu 9 (some 111) ?_ zA61 rfl rfl (Or.inl ⟨by rfl, ?_⟩) hHeld ?_ ?_ ?_
    rotate_left
    ·rintro w' ⟨s0, s1, s2, s3⟩
     go_simp
     with_reducible rfl
    rotate_left
    ·simp only [Act.put, xA, xB, xC, i64_w, i32_w]
     rfl
    refine zp 10 (some 112) ?_ zA62 rfl rfl (Or.inl ⟨by rfl, ?_⟩) ?_ ?_ ?_
    rotate_left
    ·intro w'
     go_simp
     with_reducible rfl
    rotate_left
    ·simp only [Act.put, xA, xB, xC, i64_w, i32_w]
     rfl
    refine one_ (i := 11) (N := some 113) zA63 rfl rfl (one_of HT_.out (by kernel_rfl)) (by decide) (fun K hK => ?_)
    refine goes_ Try.func62 (by kernel_rfl) rfl #[.slice (some ad201) t185.length co94, .int .i64 (wrap64 ((wrap64 (90 - ((rd_T59 t185 0).f0))) + ((rd_T59 t185 0).f1))), .int .i64 90] (by rfl) rfl rfl zm ?_
    with_reducible refine (spec_l02Move.calls k1 _ _ t185 (wrap64 ((wrap64 (90 - ((rd_T59 t185 0).f0))) + ((rd_T59 t185 0).f1))) 90 t203 _ ?side1 ?side2 A89.out).mono ?_
    (case side1 => exact zc HO187.out)
    (case side2 => exact (Kd.R_reads' HO187.out).2.1)
    rintro e w98 ⟨v204, rfl, ho0, hb⟩
    have HS0_ := zk hb (hHeld.1)
    have HS1_ := zk hb (hHeld.2.1)
    have HS2_ := zk hb (hHeld.2.2.1)
    have HS3_ := zk hb (hHeld.2.2.2)
    refine ⟨_, rfl, ?_⟩
    have n0_ := aM (Kd.R_elder' (mR_ HO_5.out) (Kd.R_base ho0) hb)
    have n1_ := aM (Kd.R_elder' (mR_ HO187.out) (Kd.R_base ho0) hb)
    have n2_ := aM (Kd.R_lower (Kd.R_new' (Kd.R_new' ho0 (Kd.R_lt (mR_ HO_5.out))) (Kd.R_lt (mR_ HO187.out))) (keep_size (w := w) (g := g) (row := none) (zK HK.out)))
    have n3_ := aM (IsS75.below (zI75 HI0.out) hb)
    have n4_ := aM (KeepBut.trans (zK HK.out) (KeepBut.of_below hb g none) (.inl rfl))
    have n5_ := aM (below_step (zs (IsS75.ge HI0.out)) hb)
    clear HO_5
    clear HO187
    clear HI0
    clear HK
    clear HB
    have HO_5 := n0_
    have HO187 := n1_
    have HO205 := n2_
    have HI0 := n3_
    have HK := n4_
    have HB := n5_
    clear n0_ n1_ n2_ n3_ n4_ n5_
    (try clear hb)
    (try clear hb2)
    (try clear hk)
    (try clear hi)
    (try clear ho0)
    refine hK.out _ _ ⟨HS0_, HS1_, HS2_, HS3_⟩ (fun hHeld => ?_)
    clear hK K
    refine norm_ (a' := ?_) ?_ ?_
    rotate_left
    ·show Act.put _ (some 113) _ = _
     simp only [Act.put, xA, xB, xC, i64_w, i32_w]
     rfl
    refine zp 12 (some 4) ?_ zA64 rfl rfl (Or.inl ⟨by rfl, ?_⟩) ?_ ?_ ?_
    rotate_left
    ·intro w'
     go_simp
     with_reducible rfl
    rotate_left
    ·simp only [Act.put, xA, xB, xC, i64_w, i32_w]
     rfl
    refine done_ (done_of HT_.out (by kernel_rfl)) ?_
    try go_wp2
    go_ret
    exact ⟨_, zw, zd0 HO205.out, zI75 HI0.out, zs (IsS75.ge HI0.out), zK HK.out⟩
   rw [if_pos c63] at H
   have c63b0 : (t191 == 1) = true := beq_iff_eq.mpr c63
   have c63b1 : (t191 != 1) = false := bne_eq_false_iff_eq.mpr c63
   clear c63
   by_cases c64 : 0 ≤ t188
   rotate_left
   ·rw [if_neg c64] at H
    exact absurd H (by simp)
   rw [if_pos c64] at H
   have c64b0 : decide (0 ≤ t188) = true := decide_eq_true c64
   clear c64
   by_cases c65 : t188 < (t185.length : Int)
   rotate_left
   ·rw [if_neg c65] at H
    exact absurd H (by simp)
   rw [if_pos c65] at H
   have c65b0 : decide (t188 < (t185.length : Int)) = true := decide_eq_true c65
   clear c65
   obtain ⟨ji66, hji66⟩ : ∃ j_ : Int, (wrap64 ((t185.length : Int) - 1)) = j_ := ⟨_, rfl⟩
   replace H : (if 0 ≤ (ji66) then (if (ji66) < (t185.length : Int) then (if t185.length < 8796093022208 then (some ((t185 ++ [(⟨(rd_T59 t185 t188).f0, wrap64 (((rd_T59 t185 (ji66)).f1) + 6)⟩ : S59)]), t192, t193)) else (none)) else (none)) else (none)) = some (r1, r2, r3) := by first | (rw [hji66] at H; exact H) | (simp only [hji66] at H ⊢; exact H)
   (try rw [hji66] at A45)
   (try rw [hji66] at A46)
   (try rw [hji66] at A47)
   (try rw [hji66] at A48)
   (try rw [hji66] at A49)
   have hji66w : (IntKind.i64.wrap ((t185.length : Int) - 1)) = ji66 := (i64_w _).trans hji66
   by_cases c67 : 0 ≤ (ji66)
   rotate_left
   ·rw [if_neg c67] at H
    exact absurd H (by simp)
   rw [if_pos c67] at H
   have c67b0 : decide (0 ≤ (ji66)) = true := decide_eq_true c67
   clear c67
   by_cases c68 : (ji66) < (t185.length : Int)
   rotate_left
   ·rw [if_neg c68] at H
    exact absurd H (by simp)
   rw [if_pos c68] at H
   have c68b0 : decide ((ji66) < (t185.length : Int)) = true := decide_eq_true c68
   clear c68
   by_cases c69 : t185.length < 8796093022208
   rotate_left
   ·rw [if_neg c69] at H
    exact absurd H (by simp)
   rw [if_pos c69] at H
   have LMc69 := aM c69
   clear c69
   obtain ⟨y198, hy198⟩ : ∃ y_ : List (S59), y_ = (t185 ++ [(⟨(rd_T59 t185 t188).f0, wrap64 (((rd_T59 t185 (ji66)).f1) + 6)⟩ : S59)]) := ⟨_, rfl⟩
   replace H : (some (y198, t192, t193)) = some (r1, r2, r3) := zy H hy198
   have Ny198 := aM hy198
   clear hy198
   simp only [Option.some.injEq, Prod.mk.injEq] at H
   obtain ⟨rfl, rfl, rfl⟩ := H
   try go_wp2_with (first | ((with_reducible refine gate_callee (f := 60) rfl ?_); refine goesL_ (some 53) rfl rfl Try.func60 (by kernel_rfl) rfl #[.pointer (some ⟨g, 0, none⟩), .int .i64 5] rfl zm ?_; (with_reducible refine (spec_l01Next.calls g s0_0 x1001_1 x1002_1 5 t179 t180 t181 w0 _ ?side1 ?side2 A45.out).mono ?_); (case side1 => exact zI75 HI0.out); (case side2 => exact zs (IsS75.ge HI0.out)); rintro e w70 ⟨rfl, hi, hb, hk⟩; refine ⟨_, rfl, ?_⟩; have n0_ := aM (Kd.R_mono (Kd.R_keep (IsS75.apart (show IsS75 w0 _ g s0_0 x1001_1 x1002_1 from zI75 HI0.out) (mR_ HO_5.out) (by decide)) hk (fun _ h => h.2)) (fun _ h => h.1)); have n1_ := aM (KeepBut.trans (zK HK.out) hk (.inl rfl)); have n2_ := aM (hb); have n3_ := aM (hi); clear HO_5 HK HB HI0; have HO_5 := n0_; have HK := n1_; have HB := n2_; have HI0 := n3_; clear n0_ n1_ n2_ n3_; (try clear hb); (try clear hb2); (try clear hk); (try clear hi)) | ((with_reducible refine gate_callee (f := 60) rfl ?_); refine goesL_ (some 57) rfl rfl Try.func60 (by kernel_rfl) rfl #[.pointer (some ⟨g, 0, none⟩), .int .i64 5] rfl zm ?_; (with_reducible refine (spec_l01Next.calls g s0_0 t180 t181 5 t182 t183 t184 w0 _ ?side1 ?side2 A46.out).mono ?_); (case side1 => exact zI75 HI0.out); (case side2 => exact zs (IsS75.ge HI0.out)); rintro e w71 ⟨rfl, hi, hb, hk⟩; refine ⟨_, rfl, ?_⟩; have n0_ := aM (Kd.R_mono (Kd.R_keep (IsS75.apart (show IsS75 w0 _ g s0_0 t180 t181 from zI75 HI0.out) (mR_ HO_5.out) (by decide)) hk (fun _ h => h.2)) (fun _ h => h.1)); have n1_ := aM (KeepBut.trans (zK HK.out) hk (.inl rfl)); have n2_ := aM (hb); have n3_ := aM (hi); clear HO_5 HK HB HI0; have HO_5 := n0_; have HK := n1_; have HB := n2_; have HI0 := n3_; clear n0_ n1_ n2_ n3_; (try clear hb); (try clear hb2); (try clear hk); (try clear hi); obtain ⟨Ao72, co72, eo72⟩ := Kd.R_slice HO_5.out; subst eo72) | ((with_reducible refine gate_callee (f := 62) rfl ?_); refine goesL_ (some 60) rfl rfl Try.func62 (by kernel_rfl) rfl #[.slice Ao72 x5_1.length co72, .int .i64 (wrap64 ((wrap64 (3 * t179)) - 6)), .int .i64 (wrap64 ((wrap64 (3 * t182)) - 6))] rfl zm ?_; (with_reducible refine (spec_l02Move.calls k1 _ _ x5_1 (wrap64 ((wrap64 (3 * t179)) - 6)) (wrap64 ((wrap64 (3 * t182)) - 6)) t185 _ ?side1 ?side2 A47.out).mono ?_); (case side1 => exact zc HO_5.out); (case side2 => exact (Kd.R_reads' HO_5.out).2.1); rintro e w73 ⟨v186, rfl, ho0, hb⟩; refine ⟨_, rfl, ?_⟩; have n0_ := aM (Kd.R_elder' (mR_ HO_5.out) (Kd.R_base ho0) hb); have n1_ := aM (Kd.R_lower (Kd.R_new' ho0 (Kd.R_lt (mR_ HO_5.out))) (keep_size (w := w) (g := g) (row := none) (zK HK.out))); have n2_ := aM (IsS75.below (zI75 HI0.out) hb); have n3_ := aM (KeepBut.trans (zK HK.out) (KeepBut.of_below hb g none) (.inl rfl)); have n4_ := aM (below_step (zs (IsS75.ge HI0.out)) hb); clear HO_5 HI0 HK HB; have HO_5 := n0_; have HO187 := n1_; have HI0 := n2_; have HK := n3_; have HB := n4_; clear n0_ n1_ n2_ n3_ n4_; (try clear hb); (try clear hb2); (try clear hk); (try clear hi); (try clear ho0); obtain ⟨Ao74, co74, eo74⟩ := Kd.R_slice HO187.out; subst eo74) | ((with_reducible refine gate_callee (f := 60) rfl ?_); refine goesL_ (some 64) rfl rfl Try.func60 (by kernel_rfl) rfl #[.pointer (some ⟨g, 0, none⟩), .int .i64 (t185.length : Int)] rfl zm ?_; (with_reducible refine (spec_l01Next.calls g s0_0 t183 t184 (t185.length : Int) t188 t189 t190 w0 _ ?side1 ?side2 A48.out).mono ?_); (case side1 => exact zI75 HI0.out); (case side2 => exact zs (IsS75.ge HI0.out)); rintro e w75 ⟨rfl, hi, hb, hk⟩; refine ⟨_, rfl, ?_⟩; have n0_ := aM (Kd.R_mono (Kd.R_keep (IsS75.apart (show IsS75 w0 _ g s0_0 t183 t184 from zI75 HI0.out) (mR_ HO_5.out) (by decide)) hk (fun _ h => h.2)) (fun _ h => h.1)); have n1_ := aM (Kd.R_mono (Kd.R_keep (IsS75.apart (show IsS75 w0 _ g s0_0 t183 t184 from zI75 HI0.out) (mR_ HO187.out) (by decide)) hk (fun _ h => h.2)) (fun _ h => h.1)); have n2_ := aM (KeepBut.trans (zK HK.out) hk (.inl rfl)); have n3_ := aM (hb); have n4_ := aM (hi); clear HO_5 HO187 HK HB HI0; have HO_5 := n0_; have HO187 := n1_; have HK := n2_; have HB := n3_; have HI0 := n4_; clear n0_ n1_ n2_ n3_ n4_; (try clear hb); (try clear hb2); (try clear hk); (try clear hi)) | ((with_reducible refine gate_callee (f := 60) rfl ?_); refine goesL_ (some 66) rfl rfl Try.func60 (by kernel_rfl) rfl #[.pointer (some ⟨g, 0, none⟩), .int .i64 24] rfl zm ?_; (with_reducible refine (spec_l01Next.calls g s0_0 t189 t190 24 t191 t192 t193 w0 _ ?side1 ?side2 A49.out).mono ?_); (case side1 => exact zI75 HI0.out); (case side2 => exact zs (IsS75.ge HI0.out)); rintro e w76 ⟨rfl, hi, hb, hk⟩; refine ⟨_, rfl, ?_⟩; have n0_ := aM (Kd.R_mono (Kd.R_keep (IsS75.apart (show IsS75 w0 _ g s0_0 t189 t190 from zI75 HI0.out) (mR_ HO_5.out) (by decide)) hk (fun _ h => h.2)) (fun _ h => h.1)); have n1_ := aM (Kd.R_mono (Kd.R_keep (IsS75.apart (show IsS75 w0 _ g s0_0 t189 t190 from zI75 HI0.out) (mR_ HO187.out) (by decide)) hk (fun _ h => h.2)) (fun _ h => h.1)); have n2_ := aM (KeepBut.trans (zK HK.out) hk (.inl rfl)); have n3_ := aM (hb); have n4_ := aM (hi); clear HO_5 HO187 HK HB HI0; have HO_5 := n0_; have HO187 := n1_; have HK := n2_; have HB := n3_; have HI0 := n4_; clear n0_ n1_ n2_ n3_ n4_; (try clear hb); (try clear hb2); (try clear hk); (try clear hi)))
   have n0_ := aM (Kd.R_drew HO_5.out)
   have n1_ := aM (Kd.R_drew HO187.out)
   have n2_ := aM (IsS75.drew HI0.out)
   have n3_ := aM (keep_drew HK.out)
   have n4_ := aM (below_drew1 HB.out)
   clear HO_5
   clear HO187
   clear HI0
   clear HK
   clear HB
   have HO_5 := n0_
   have HO187 := n1_
   have HI0 := n2_
   have HK := n3_
   have HB := n4_
   clear n0_ n1_ n2_ n3_ n4_
   have p196 : 0 ≤ (t188 : Int) := of_decide_eq_true za
   have q196 : t188 < (t185.length : Int) := of_decide_eq_true za
   obtain ⟨ad196, e196, hx196_0, hx196_1⟩ := at_T59 (Kd.R_reads' HO187.out).2.2 t188 p196 q196
   cases e196
   replace p196 := eq_true p196
   replace q196 := eq_true q196
   have p197 : 0 ≤ ((ji66) : Int) := of_decide_eq_true za
   have q197 : (ji66) < (t185.length : Int) := of_decide_eq_true za
   obtain ⟨ad197, e197, hx197_0, hx197_1⟩ := at_T59 (Kd.R_reads' HO187.out).2.2 (ji66) p197 q197
   obtain rfl : ad196 = ad197 := (by injection e197)
   replace p197 := eq_true p197
   replace q197 := eq_true q197
   refine start_ (n := 18) (S := fun w' => w'.cell? (ad196.add ((t188).toNat * 2)) = some (.int .i64 ((rd_T59 t185 t188).f0)) ∧ w'.cell? ⟨(ad196.add ((t188).toNat * 2)).block, (ad196.add ((t188).toNat * 2)).off + 1, none⟩ = some (.int .i64 ((rd_T59 t185 t188).f1)) ∧ w'.cell? (ad196.add (((ji66)).toNat * 2)) = some (.int .i64 ((rd_T59 t185 (ji66)).f0)) ∧ w'.cell? ⟨(ad196.add (((ji66)).toNat * 2)).block, (ad196.add (((ji66)).toNat * 2)).off + 1, none⟩ = some (.int .i64 ((rd_T59 t185 (ji66)).f1))) (ds := [15, 16]) zA65 (by kernel_rfl) rfl rfl ⟨hx196_0, hx196_1, hx197_0, hx197_1⟩ (fun hHeld => ?_); refine with_tabW spec_l07Draw.tab16 spec_l07Draw.bits16 (fun HT_ HW_ => ?_)
   generalize w76.drew = w77 at HO_5 HO187 HI0 HK HB hx196_0 hx196_1 hx197_0 hx197_1 hHeld ⊢
   refine zp 0 (some 81) ?_ zA66 rfl rfl (Or.inl ⟨by rfl, ?_⟩) ?_ ?_ ?_
   rotate_left
   ·intro w'
    go_simp
    with_reducible rfl
   rotate_left
   ·simp only [Act.put, xA, xB, xC, i64_w, i32_w]
    rfl
   refine zp 1 (some 82) ?_ zA67 rfl rfl (Or.inl ⟨by rfl, ?_⟩) ?_ ?_ ?_
   rotate_left
   ·intro w'
    go_simp
    with_reducible rfl
   rotate_left
   ·simp only [Act.put, xA, xB, xC, i64_w, i32_w]
    rfl
   refine zp 2 (some 83) ?_ zA68 rfl rfl (Or.inl ⟨by rfl, ?_⟩) ?_ ?_ ?_
   rotate_left
   ·intro w'
    go_simp
    with_reducible rfl
   rotate_left
   ·simp only [Act.put, xA, xB, xC, i64_w, i32_w]
    rfl
   refine zp 3 (some 84) ?_ zA69 rfl rfl (Or.inl ⟨by rfl, ?_⟩) ?_ ?_ ?_
   rotate_left
   ·intro w'
    go_simp
    with_reducible rfl
   rotate_left
   ·simp only [Act.put, xA, xB, xC, i64_w, i32_w]
    rfl
   refine zp 4 (some 85) ?_ zA70 rfl rfl (Or.inl ⟨by rfl, ?_⟩) ?_ ?_ ?_
   rotate_left
   ·intro w'
    go_simp
    with_reducible rfl
   rotate_left
   ·simp only [Act.put, xA, xB, xC, i64_w, i32_w]
    rfl
   refine zp 6 (some 87) ?_ zA71 rfl rfl (Or.inl ⟨by rfl, ?_⟩) ?_ ?_ ?_
   rotate_left
   ·intro w'
    go_simp
    with_reducible rfl
   rotate_left
   ·simp only [Act.put, xA, xB, xC, i64_w, i32_w]
    rfl
   refine zp 7 (some 88) ?_ zA72 rfl rfl (Or.inl ⟨by rfl, ?_⟩) ?_ ?_ ?_
   rotate_left
   ·intro w'
    go_simp
    with_reducible rfl
   rotate_left
   ·simp only [Act.put, xA, xB, xC, i64_w, i32_w]
    rfl
   refine zp 8 (some 89) ?_ zA73 rfl rfl (Or.inl ⟨by rfl, ?_⟩) ?_ ?_ ?_
   rotate_left
   ·intro w'
    go_simp
    with_reducible rfl
   rotate_left
   ·simp only [Act.put, xA, xB, xC, i64_w, i32_w]
    rfl
   refine zp 9 (some 90) ?_ zA74 rfl rfl (Or.inl ⟨by rfl, ?_⟩) ?_ ?_ ?_
   rotate_left
   ·intro w'
    go_simp
    with_reducible rfl
   rotate_left
   ·simp only [Act.put, xA, xB, xC, i64_w, i32_w]
    rfl
   refine zp 10 (some 91) ?_ zA75 rfl rfl (Or.inl ⟨by rfl, ?_⟩) ?_ ?_ ?_
   rotate_left
   ·intro w'
    go_simp
    with_reducible rfl
   rotate_left
   ·simp only [Act.put, xA, xB, xC, i64_w, i32_w]
    rfl
   refine zp 11 (some 92) ?_ zA76 rfl rfl (Or.inl ⟨by rfl, ?_⟩) ?_ ?_ ?_
   rotate_left
   ·intro w'
    go_simp
    with_reducible rfl
   rotate_left
   ·simp only [Act.put, xA, xB, xC, i64_w, i32_w]
    rfl
   refine zu 5 (some 86) ?_ zA77 rfl rfl (Or.inl ⟨by rfl, ?_⟩) hHeld ?_ ?_ ?_
   rotate_left
   ·rintro w' ⟨s0, s1, s2, s3⟩
    go_simp
    with_reducible rfl
   rotate_left
   ·simp only [Act.put, xA, xB, xC, i64_w, i32_w]
    rfl
   refine zu 12 (some 93) ?_ zA78 rfl rfl (Or.inl ⟨by rfl, ?_⟩) hHeld ?_ ?_ ?_
   rotate_left
   ·rintro w' ⟨s0, s1, s2, s3⟩
    go_simp
    with_reducible rfl
   rotate_left
   ·simp only [Act.put, xA, xB, xC, i64_w, i32_w]
    rfl
   refine zp 13 (some 94) ?_ zA79 rfl rfl (Or.inl ⟨by rfl, ?_⟩) ?_ ?_ ?_
   rotate_left
   ·intro w'
    go_simp
    with_reducible rfl
   rotate_left
   ·simp only [Act.put, xA, xB, xC, i64_w, i32_w]
    rfl
   refine zp 14 (some 95) ?_ zA80 rfl rfl (Or.inl ⟨by rfl, ?_⟩) ?_ ?_ ?_
   rotate_left
   ·intro w'
    go_simp
    with_reducible rfl
   rotate_left
   ·simp only [Act.put, xA, xB, xC, i64_w, i32_w]
    rfl
   refine last_ (i := 15) (N := some 96) zA81 rfl rfl (one_of HT_.out (by kernel_rfl)) (by decide) (fun K hK => ?_)
   refine value_ (w1 := ?_) (v := ?_) (by rfl) rfl ?_ ?_
   rotate_left 2
   ·go_simp
    constructor
    ·rfl
    ·rfl
   refine hK.out _ _ ?_
   clear hK K
   refine norm_ (a' := ?_) ?_ ?_
   rotate_left
   ·show Act.put _ (some 96) _ = _
    simp only [Act.put, xA, xB, xC, i64_w, i32_w]
    rfl
   refine last_ (i := 16) (N := some 97) zA82 rfl rfl (one_of HT_.out (by kernel_rfl)) (by decide) (fun K hK => ?_)
   refine Kd.R_append_step k59 w.heap.size (by rfl) (.tmp 81) (.tmp 96) 24 59 (.agg #[(.int .i64 0), (.int .i64 0)]) 16 rfl Try.underlying24 info59 rfl (by decide) (by omega) (.slice (some ad196) t185.length co74) t185 (⟨(rd_T59 t185 t188).f0, wrap64 (((rd_T59 t185 (ji66)).f1) + 6)⟩ : S59) [.int .i64 ((rd_T59 t185 t188).f0), .int .i64 (wrap64 (((rd_T59 t185 (ji66)).f1) + 6))] (fun k_ => some k_ ≠ (.slice Ao72 x5_1.length co72 : Value).ownBlock) (fun _ => False) rfl rfl ?aP (fun _ hk => hk.elim) ?aF ?aO (Below.refl _ _) ?aS ?aL ?_
   (case aP => exact k59_mkM _ _ _ (⟨(rd_T59 t185 t188).f0, wrap64 (((rd_T59 t185 (ji66)).f1) + 6)⟩ : S59))
   (case aF => exact (fun k_ hk => Kd.fresh' (Kd.R_lt (mR_ HO_5.out)) k_ hk))
   (case aO => exact (zd1 HO187.out))
   (case aS => exact (keep_size (w := w) (g := g) (row := none) (zK HK.out)))
   (case aL => have := LMc69.out; omega)
   intro v199 w78 ho hb hg hat
   rw [← Ny198.out] at ho
   have n0_ := aM (Kd.R_after (ok := (fun _ => True)) (mR_ HO_5.out) hg hat)
   have n1_ := aM (IsS75.grown (zI75 HI0.out) hg (IsS75.own_ne HI0.out HO187.out (by decide)))
   have n2_ := aM (below_weaken (zs (IsS75.ge HI0.out)) HL.out hb)
   have n3_ := aM (KeepBut.trans (zK HK.out) (KeepBut.of_grown hg g) (Kd.R_base2 HO187.out))
   have n4_ := aM (ho)
   clear HO_5
   clear HI0
   clear HB
   clear HK
   clear HO187
   have HO_5 := n0_
   have HI0 := n1_
   have HB := n2_
   have HK := n3_
   have HO200 := n4_
   clear n0_ n1_ n2_ n3_ n4_
   clear ho hb hg hat
   refine hK.out _ _ ?_
   clear hK K
   refine norm_ (a' := ?_) ?_ ?_
   rotate_left
   ·show Act.put _ (some 97) _ = _
    simp only [Act.put, xA, xB, xC, i64_w, i32_w]
    rfl
   refine zp 17 (some 5) ?_ zA83 rfl rfl (Or.inl ⟨by rfl, ?_⟩) ?_ ?_ ?_
   rotate_left
   ·intro w'
    go_simp
    with_reducible rfl
   rotate_left
   ·simp only [Act.put, xA, xB, xC, i64_w, i32_w]
    rfl
   refine done_ (done_of HT_.out (by kernel_rfl)) ?_
   try go_wp2
   go_ret
   exact ⟨_, by first | rfl | (simp [errW_none, errW_some] <;> rfl) | (simp only [← hji66]; first | rfl | (simp [errW_none, errW_some] <;> rfl)) | (simp [*, errW_none, errW_some] <;> rfl), zd0 HO200.out, zI75 HI0.out, zs (IsS75.ge HI0.out), zK HK.out⟩
def spec_l07DrawFar.f (k : Nat) (s0_0 : List Int) (s0_1 : Int) (s0_2 : Int) (a1 : Int) : Option ((List (S59)) × Int × Int) := (spec_l01Next.f s0_0 s0_1 s0_2 24).bind fun bt206 => (if bt206.1 = 0 then ((spec_l01Next.f s0_0 bt206.2.1 bt206.2.2 2).bind fun bt209 => (some ((([(⟨1, 1⟩ : S59), (⟨1, wrap64 (97 + (wrap64 (3 * bt209.1)))⟩ : S59)] : List (S59))), bt209.2.1, bt209.2.2))) else ((spec_l01Next.f s0_0 bt206.2.1 bt206.2.2 24).bind fun bt215 => (if bt215.1 = 0 then (some ((([(⟨1, 1⟩ : S59), (⟨61, 61⟩ : S59)] : List (S59))), bt215.2.1, bt215.2.2)) else ((spec_l07Draw.f k s0_0 bt215.2.1 bt215.2.2 a1).bind fun bt221 => (some (bt221.1, bt221.2.1, bt221.2.2))))))
theorem spec_l07DrawFar.calls (k : Nat) (g : Nat) (s0_0 : List Int) (s0_1 : Int) (s0_2 : Int) (a1 : Int) (r1 : List (S59)) (r2 : Int) (r3 : Int) (w0 w : World) (hI : IsS75 w0 w g s0_0 s0_1 s0_2) (hB : Below w0.heap.size w0 w) (h : spec_l07DrawFar.f k s0_0 s0_1 s0_2 a1 = some (r1, r2, r3)) :
  Calls Try.prog 35 #[.pointer (some ⟨g, 0, none⟩), .int .i64 a1] w fun e w' => ∃ v0_ : Value, e = .returned (v0_) ∧ Kd.R k59 59 w' w.heap.size (fun _ => True) v0_ r1 ∧ IsS75 w0 w' g s0_0 r2 r3 ∧ Below w0.heap.size w0 w' ∧ KeepBut w w' g none := by
 have hu59 := Try.underlying59
 have HI0 := aM hI
 have HK := aM (KeepBut.refl w g none)
 have HL := aM hB.size
 clear hI
 have HW0 := aM hB.size
 have HB := aM hB
 clear hB
 have H : ((spec_l01Next.f s0_0 s0_1 s0_2 24).bind fun bt206 => (if bt206.1 = 0 then ((spec_l01Next.f s0_0 bt206.2.1 bt206.2.2 2).bind fun bt209 => (some ((([(⟨1, 1⟩ : S59), (⟨1, wrap64 (97 + (wrap64 (3 * bt209.1)))⟩ : S59)] : List (S59))), bt209.2.1, bt209.2.2))) else ((spec_l01Next.f s0_0 bt206.2.1 bt206.2.2 24).bind fun bt215 => (if bt215.1 = 0 then (some ((([(⟨1, 1⟩ : S59), (⟨61, 61⟩ : S59)] : List (S59))), bt215.2.1, bt215.2.2)) else ((spec_l07Draw.f k s0_0 bt215.2.1 bt215.2.2 a1).bind fun bt221 => (some (bt221.1, bt221.2.1, bt221.2.2))))))) = some (r1, r2, r3) := h
 clear h
 replace H := Option.bind_eq_some_iff.mp H
 obtain ⟨⟨t206, t207, t208⟩, A30, H⟩ := H
 replace H : (if t206 = 0 then ((spec_l01Next.f s0_0 t207 t208 2).bind fun bt209 => (some ((([(⟨1, 1⟩ : S59), (⟨1, wrap64 (97 + (wrap64 (3 * bt209.1)))⟩ : S59)] : List (S59))), bt209.2.1, bt209.2.2))) else ((spec_l01Next.f s0_0 t207 t208 24).bind fun bt215 => (if bt215.1 = 0 then (some ((([(⟨1, 1⟩ : S59), (⟨61, 61⟩ : S59)] : List (S59))), bt215.2.1, bt215.2.2)) else ((spec_l07Draw.f k s0_0 bt215.2.1 bt215.2.2 a1).bind fun bt221 => (some (bt221.1, bt221.2.1, bt221.2.2)))))) = some (r1, r2, r3) := H
 have A3 := aM A30
 clear A30
 by_cases c4 : t206 = 0
 ·rw [if_pos c4] at H
  have c4b0 : (t206 == 0) = true := beq_iff_eq.mpr c4
  have c4b1 : (t206 != 0) = false := bne_eq_false_iff_eq.mpr c4
  clear c4
  replace H := Option.bind_eq_some_iff.mp H
  obtain ⟨⟨t209, t210, t211⟩, A50, H⟩ := H
  replace H : (some ((([(⟨1, 1⟩ : S59), (⟨1, wrap64 (97 + (wrap64 (3 * t209)))⟩ : S59)] : List (S59))), t210, t211)) = some (r1, r2, r3) := H
  have A5 := aM A50
  clear A50
  obtain ⟨y212, hy212⟩ : ∃ y_ : List (S59), y_ = (([(⟨1, 1⟩ : S59), (⟨1, wrap64 (97 + (wrap64 (3 * t209)))⟩ : S59)] : List (S59))) := ⟨_, rfl⟩
  replace H : (some (y212, t210, t211)) = some (r1, r2, r3) := zy H hy212
  have Ny212 := aM hy212
  clear hy212
  simp only [Option.some.injEq, Prod.mk.injEq] at H
  obtain ⟨rfl, rfl, rfl⟩ := H
  go_enter Try.func35, Try.ntmps35
  go_wp2_with (first | ((with_reducible refine gate_callee (f := 60) rfl ?_); refine goesL_ (some 6) rfl rfl Try.func60 (by kernel_rfl) rfl #[.pointer (some ⟨g, 0, none⟩), .int .i64 24] rfl zm ?_; (with_reducible refine (spec_l01Next.calls g s0_0 s0_1 s0_2 24 t206 t207 t208 w0 _ ?side1 ?side2 A3.out).mono ?_); (case side1 => exact zI75 HI0.out); (case side2 => exact zs (IsS75.ge HI0.out)); rintro e w6 ⟨rfl, hi, hb, hk⟩; refine ⟨_, rfl, ?_⟩; have n0_ := aM (KeepBut.trans (zK HK.out) hk (.inl rfl)); have n1_ := aM (hb); have n2_ := aM (hi); clear HK HB HI0; have HK := n0_; have HB := n1_; have HI0 := n2_; clear n0_ n1_ n2_; (try clear hb); (try clear hb2); (try clear hk); (try clear hi)) | ((with_reducible refine gate_callee (f := 60) rfl ?_); refine goesL_ (some 10) rfl rfl Try.func60 (by kernel_rfl) rfl #[.pointer (some ⟨g, 0, none⟩), .int .i64 2] rfl zm ?_; (with_reducible refine (spec_l01Next.calls g s0_0 t207 t208 2 t209 t210 t211 w0 _ ?side1 ?side2 A5.out).mono ?_); (case side1 => exact zI75 HI0.out); (case side2 => exact zs (IsS75.ge HI0.out)); rintro e w7 ⟨rfl, hi, hb, hk⟩; refine ⟨_, rfl, ?_⟩; have n0_ := aM (KeepBut.trans (zK HK.out) hk (.inl rfl)); have n1_ := aM (hb); have n2_ := aM (hi); clear HK HB HI0; have HK := n0_; have HB := n1_; have HI0 := n2_; clear n0_ n1_ n2_; (try clear hb); (try clear hb2); (try clear hk); (try clear hi)) | ((with_reducible refine gate_dst (N := 14) rfl ?_); refine Kd.R_lit k59 _ 59 ?hg (N := 14) ?hd (xs := ([(⟨1, 1⟩ : S59), (⟨1, wrap64 (97 + (wrap64 (3 * t209)))⟩ : S59)] : List (S59))) (inner := [.int .i64 1, .int .i64 1, .int .i64 1, .int .i64 (wrap64 (97 + (wrap64 (3 * t209))))]) (ok := fun _ => True) (okp := fun _ => True) ?hr ?hp (fun _ hk => hk) trivial (Below.refl _ _) (Nat.le_refl _) (by simp) ?_; (case hd => rfl); (case hg => rfl); (case hr => first | (go_simp; done) | (go_simp; rfl)); (case hp => exact (Reps.c2 (show Kd.M k59 _ _ _ (⟨1, 1⟩ : S59) [.int .i64 1, .int .i64 1] from (k59_mkM _ _ _ (⟨1, 1⟩ : S59) )) (Reps.c2 (show Kd.M k59 _ _ _ (⟨1, wrap64 (97 + (wrap64 (3 * t209)))⟩ : S59) [.int .i64 1, .int .i64 (wrap64 (97 + (wrap64 (3 * t209))))] from (k59_mkM _ _ _ (⟨1, wrap64 (97 + (wrap64 (3 * t209)))⟩ : S59) )) (Reps.none _ _)))); intro v213 w8 ho9 hb hg_ hnew_; clear hg_ hnew_; (first | rw [← Ny212.out] at ho9 | (simp only [Int.reduceToNat] at ho9; rw [← Ny212.out] at ho9)); have n0_ := aM (Kd.R_lower ho9 (keep_size (w := w) (g := g) (row := none) (zK HK.out))); have n1_ := aM (IsS75.below (zI75 HI0.out) hb); have n2_ := aM (KeepBut.trans (zK HK.out) (KeepBut.of_below hb g none) (.inl rfl)); have n3_ := aM (below_step (zs (IsS75.ge HI0.out)) hb); clear HI0 HK HB; have HO214 := n0_; have HI0 := n1_; have HK := n2_; have HB := n3_; clear n0_ n1_ n2_ n3_; clear hb ho9))
  go_ret
  exact ⟨_, zw, mR_ HO214.out, zI75 HI0.out, zs (IsS75.ge HI0.out), zK HK.out⟩
 rw [if_neg c4] at H
 have c4b0 : (t206 == 0) = false := beq_eq_false_iff_ne.mpr c4
 have c4b1 : (t206 != 0) = true := bne_iff_ne.mpr c4
 replace H := Option.bind_eq_some_iff.mp H
 obtain ⟨⟨t215, t216, t217⟩, A100, H⟩ := H
 replace H : (if t215 = 0 then (some ((([(⟨1, 1⟩ : S59), (⟨61, 61⟩ : S59)] : List (S59))), t216, t217)) else ((spec_l07Draw.f k s0_0 t216 t217 a1).bind fun bt221 => (some (bt221.1, bt221.2.1, bt221.2.2)))) = some (r1, r2, r3) := H
 have A10 := aM A100
 clear A100
 by_cases c11 : t215 = 0
 ·rw [if_pos c11] at H
  have c11b0 : (t215 == 0) = true := beq_iff_eq.mpr c11
  have c11b1 : (t215 != 0) = false := bne_eq_false_iff_eq.mpr c11
  clear c11
  obtain ⟨y218, hy218⟩ : ∃ y_ : List (S59), y_ = (([(⟨1, 1⟩ : S59), (⟨61, 61⟩ : S59)] : List (S59))) := ⟨_, rfl⟩
  replace H : (some (y218, t216, t217)) = some (r1, r2, r3) := zy H hy218
  have Ny218 := aM hy218
  clear hy218
  simp only [Option.some.injEq, Prod.mk.injEq] at H
  obtain ⟨rfl, rfl, rfl⟩ := H
  go_enter Try.func35, Try.ntmps35
  go_wp2_with (first | ((with_reducible refine gate_callee (f := 60) rfl ?_); refine goesL_ (some 6) rfl rfl Try.func60 (by kernel_rfl) rfl #[.pointer (some ⟨g, 0, none⟩), .int .i64 24] rfl zm ?_; (with_reducible refine (spec_l01Next.calls g s0_0 s0_1 s0_2 24 t206 t207 t208 w0 _ ?side1 ?side2 A3.out).mono ?_); (case side1 => exact zI75 HI0.out); (case side2 => exact zs (IsS75.ge HI0.out)); rintro e w12 ⟨rfl, hi, hb, hk⟩; refine ⟨_, rfl, ?_⟩; have n0_ := aM (KeepBut.trans (zK HK.out) hk (.inl rfl)); have n1_ := aM (hb); have n2_ := aM (hi); clear HK HB HI0; have HK := n0_; have HB := n1_; have HI0 := n2_; clear n0_ n1_ n2_; (try clear hb); (try clear hb2); (try clear hk); (try clear hi)) | ((with_reducible refine gate_callee (f := 60) rfl ?_); refine goesL_ (some 16) rfl rfl Try.func60 (by kernel_rfl) rfl #[.pointer (some ⟨g, 0, none⟩), .int .i64 24] rfl zm ?_; (with_reducible refine (spec_l01Next.calls g s0_0 t207 t208 24 t215 t216 t217 w0 _ ?side1 ?side2 A10.out).mono ?_); (case side1 => exact zI75 HI0.out); (case side2 => exact zs (IsS75.ge HI0.out)); rintro e w13 ⟨rfl, hi, hb, hk⟩; refine ⟨_, rfl, ?_⟩; have n0_ := aM (KeepBut.trans (zK HK.out) hk (.inl rfl)); have n1_ := aM (hb); have n2_ := aM (hi); clear HK HB HI0; have HK := n0_; have HB := n1_; have HI0 := n2_; clear n0_ n1_ n2_; (try clear hb); (try clear hb2); (try clear hk); (try clear hi)) | ((with_reducible refine gate_dst (N := 20) rfl ?_); refine Kd.R_lit k59 _ 59 ?hg (N := 20) ?hd (xs := ([(⟨1, 1⟩ : S59), (⟨61, 61⟩ : S59)] : List (S59))) (inner := [.int .i64 1, .int .i64 1, .int .i64 61, .int .i64 61]) (ok := fun _ => True) (okp := fun _ => True) ?hr ?hp (fun _ hk => hk) trivial (Below.refl _ _) (Nat.le_refl _) (by simp) ?_; (case hd => rfl); (case hg => rfl); (case hr => first | (go_simp; done) | (go_simp; rfl)); (case hp => exact (Reps.c2 (show Kd.M k59 _ _ _ (⟨1, 1⟩ : S59) [.int .i64 1, .int .i64 1] from (k59_mkM _ _ _ (⟨1, 1⟩ : S59) )) (Reps.c2 (show Kd.M k59 _ _ _ (⟨61, 61⟩ : S59) [.int .i64 61, .int .i64 61] from (k59_mkM _ _ _ (⟨61, 61⟩ : S59) )) (Reps.none _ _)))); intro v219 w14 ho15 hb hg_ hnew_; clear hg_ hnew_; (first | rw [← Ny218.out] at ho15 | (simp only [Int.reduceToNat] at ho15; rw [← Ny218.out] at ho15)); have n0_ := aM (Kd.R_lower ho15 (keep_size (w := w) (g := g) (row := none) (zK HK.out))); have n1_ := aM (IsS75.below (zI75 HI0.out) hb); have n2_ := aM (KeepBut.trans (zK HK.out) (KeepBut.of_below hb g none) (.inl rfl)); have n3_ := aM (below_step (zs (IsS75.ge HI0.out)) hb); clear HI0 HK HB; have HO220 := n0_; have HI0 := n1_; have HK := n2_; have HB := n3_; clear n0_ n1_ n2_ n3_; clear hb ho15))
  go_ret
  exact ⟨_, zw, mR_ HO220.out, zI75 HI0.out, zs (IsS75.ge HI0.out), zK HK.out⟩
 rw [if_neg c11] at H
 have c11b0 : (t215 == 0) = false := beq_eq_false_iff_ne.mpr c11
 have c11b1 : (t215 != 0) = true := bne_iff_ne.mpr c11
 replace H := Option.bind_eq_some_iff.mp H
 obtain ⟨⟨t221, t224, t225⟩, A160, H⟩ := H
 replace H : (some (t221, t224, t225)) = some (r1, r2, r3) := H
 have A16 := aM A160
 clear A160
 simp only [Option.some.injEq, Prod.mk.injEq] at H
 obtain ⟨rfl, rfl, rfl⟩ := H
 go_enter Try.func35, Try.ntmps35
 go_wp2_with (first | ((with_reducible refine gate_callee (f := 60) rfl ?_); refine goesL_ (some 6) rfl rfl Try.func60 (by kernel_rfl) rfl #[.pointer (some ⟨g, 0, none⟩), .int .i64 24] rfl zm ?_; (with_reducible refine (spec_l01Next.calls g s0_0 s0_1 s0_2 24 t206 t207 t208 w0 _ ?side1 ?side2 A3.out).mono ?_); (case side1 => exact zI75 HI0.out); (case side2 => exact zs (IsS75.ge HI0.out)); rintro e w17 ⟨rfl, hi, hb, hk⟩; refine ⟨_, rfl, ?_⟩; have n0_ := aM (KeepBut.trans (zK HK.out) hk (.inl rfl)); have n1_ := aM (hb); have n2_ := aM (hi); clear HK HB HI0; have HK := n0_; have HB := n1_; have HI0 := n2_; clear n0_ n1_ n2_; (try clear hb); (try clear hb2); (try clear hk); (try clear hi)) | ((with_reducible refine gate_callee (f := 60) rfl ?_); refine goesL_ (some 16) rfl rfl Try.func60 (by kernel_rfl) rfl #[.pointer (some ⟨g, 0, none⟩), .int .i64 24] rfl zm ?_; (with_reducible refine (spec_l01Next.calls g s0_0 t207 t208 24 t215 t216 t217 w0 _ ?side1 ?side2 A10.out).mono ?_); (case side1 => exact zI75 HI0.out); (case side2 => exact zs (IsS75.ge HI0.out)); rintro e w18 ⟨rfl, hi, hb, hk⟩; refine ⟨_, rfl, ?_⟩; have n0_ := aM (KeepBut.trans (zK HK.out) hk (.inl rfl)); have n1_ := aM (hb); have n2_ := aM (hi); clear HK HB HI0; have HK := n0_; have HB := n1_; have HI0 := n2_; clear n0_ n1_ n2_; (try clear hb); (try clear hb2); (try clear hk); (try clear hi)) | ((with_reducible refine gate_callee (f := 61) rfl ?_); refine goesL_ (some 23) rfl rfl Try.func61 (by kernel_rfl) rfl #[.pointer (some ⟨g, 0, none⟩), .int .i64 a1] rfl zm ?_; (with_reducible refine (spec_l07Draw.calls k g s0_0 t216 t217 a1 t221 t224 t225 w0 _ ?side1 ?side2 A16.out).mono ?_); (case side1 => exact zI75 HI0.out); (case side2 => exact zs (IsS75.ge HI0.out)); rintro e w19 ⟨v222, rfl, ho0, hi, hb, hk⟩; refine ⟨_, rfl, ?_⟩; have n0_ := aM (Kd.R_lower ho0 (keep_size (w := w) (g := g) (row := none) (zK HK.out))); have n1_ := aM (KeepBut.trans (zK HK.out) hk (.inl rfl)); have n2_ := aM (hb); have n3_ := aM (hi); clear HK HB HI0; have HO223 := n0_; have HK := n1_; have HB := n2_; have HI0 := n3_; clear n0_ n1_ n2_ n3_; (try clear hb); (try clear hb2); (try clear hk); (try clear hi); (try clear ho0)))
 go_ret
 exact ⟨_, zw, mR_ HO223.out, zI75 HI0.out, zs (IsS75.ge HI0.out), zK HK.out⟩
def impl_isLatticeTurn.f (a0 : Int) : Option (Bool) := (impl_within.f a0 0 11).bind fun t274 => (some t274)
theorem impl_isLatticeTurn.calls (a0 : Int) (r : Bool) (w : World) (h : impl_isLatticeTurn.f a0 = some r) :
  Calls Try.prog 38 #[.int .i64 a0] w fun e w' => e = .returned (.bool r) ∧ Drawn0 w w' := by
 have H : ((impl_within.f a0 0 11).bind fun t274 => (some t274)) = some r := h
 clear h
 replace H := Option.bind_eq_some_iff.mp H
 obtain ⟨t274, A20, H⟩ := H
 replace H : (some t274) = some r := H
 have A2 := aM A20
 clear A20
 obtain rfl := Option.some.inj H
 go_enter Try.func38, Try.ntmps38
 go_wp2_with (first | ((with_reducible refine gate_callee (f := 52) rfl ?_); refine goesL_ (some 4) rfl rfl Try.func52 (by kernel_rfl) rfl #[.int .i64 a0, .int .i64 0, .int .i64 11] rfl zm ?_; (with_reducible refine (impl_within.calls a0 0 11 t274 _ A2.out).mono ?_); rintro e w' ⟨rfl, ⟨nd, rfl⟩⟩; refine ⟨_, rfl, ?_⟩))
 go_ret
 exact ⟨by first | rfl | (simp; done) | (simp [*]; done), by repeat (first | exact Drawn0.refl _ | apply Drawn0.step)⟩
def spec_l07Is.f (a0 : Int) (a1_0 : Int) (a1_1 : Int) : Option (Bool) := if a0 = 1 then (some true) else ((spec_l01Mod.f a1_0 3).bind fun t333 => ((spec_l01Mod.f a1_1 3).bind fun t334 => (if t333 = t334 then ((spec_l01Mod.f a1_0 3).bind fun t335 => (some (t335 != 0))) else (some false))))
theorem spec_l07Is.calls (a0 : Int) (a1_0 : Int) (a1_1 : Int) (r : Bool) (w : World) (h : spec_l07Is.f a0 a1_0 a1_1 = some r) :
  Calls Try.prog 86 #[.int .i64 a0, .agg #[.int .i64 a1_0, .int .i64 a1_1]] w fun e w' => e = .returned (.bool r) ∧ Below w.heap.size w w' := by
 have hu59 := Try.underlying59
 have HB := aM (Below.refl w.heap.size w)
 have H : (if a0 = 1 then (some true) else ((spec_l01Mod.f a1_0 3).bind fun t333 => ((spec_l01Mod.f a1_1 3).bind fun t334 => (if t333 = t334 then ((spec_l01Mod.f a1_0 3).bind fun t335 => (some (t335 != 0))) else (some false))))) = some r := h
 clear h
 by_cases c3 : a0 = 1
 ·rw [if_pos c3] at H
  have c3b0 : (a0 == 1) = true := beq_iff_eq.mpr c3
  have c3b1 : (a0 != 1) = false := bne_eq_false_iff_eq.mpr c3
  clear c3
  obtain rfl := Option.some.inj H
  go_enter Try.func86, Try.ntmps86
  go_wp2_with (first | ((with_reducible refine gate_dst (N := 3) rfl ?_); refine zx 3 #[.int .i64 a1_0, .int .i64 a1_1] 59 ?_; intro gb332 hg w4 hbox hb; have n0_ := aM (below_step zb hb); have n1_ := aM (hbox); have n2_ := aM ((ze : w.heap.size ≤ gb332)); have n3_ := aM ((ze : w.heap.size ≤ gb332)); clear HB; have HB := n0_; have BK332 := n1_; have GW332 := n2_; have GE332 := n3_; clear n0_ n1_ n2_ n3_; clear hb hbox hg))
  repeat (go_quiet (first | ((with_reducible refine gate_dst (N := 3) rfl ?_); refine zx 3 #[.int .i64 a1_0, .int .i64 a1_1] 59 ?_; intro gb332 hg w4 hbox hb; have n0_ := aM (below_step zb hb); have n1_ := aM (hbox); have n2_ := aM ((ze : w.heap.size ≤ gb332)); have n3_ := aM ((ze : w.heap.size ≤ gb332)); clear HB; have HB := n0_; have BK332 := n1_; have GW332 := n2_; have GE332 := n3_; clear n0_ n1_ n2_ n3_; clear hb hbox hg)); try go_wp2_with (first | ((with_reducible refine gate_dst (N := 3) rfl ?_); refine zx 3 #[.int .i64 a1_0, .int .i64 a1_1] 59 ?_; intro gb332 hg w4 hbox hb; have n0_ := aM (below_step zb hb); have n1_ := aM (hbox); have n2_ := aM ((ze : w.heap.size ≤ gb332)); have n3_ := aM ((ze : w.heap.size ≤ gb332)); clear HB; have HB := n0_; have BK332 := n1_; have GW332 := n2_; have GE332 := n3_; clear n0_ n1_ n2_ n3_; clear hb hbox hg)))
  go_ret
  exact ⟨by first | rfl | (simp [errW_none, errW_some] <;> rfl) | (simp [*, errW_none, errW_some] <;> rfl) | (obtain rfl := Option.some.inj (A5.out.symm.trans A8.out); rfl), zs GE332.out⟩
 rw [if_neg c3] at H
 have c3b0 : (a0 == 1) = false := beq_eq_false_iff_ne.mpr c3
 have c3b1 : (a0 != 1) = true := bne_iff_ne.mpr c3
 replace H := Option.bind_eq_some_iff.mp H
 obtain ⟨t333, A50, H⟩ := H
 replace H : ((spec_l01Mod.f a1_1 3).bind fun t334 => (if t333 = t334 then ((spec_l01Mod.f a1_0 3).bind fun t335 => (some (t335 != 0))) else (some false))) = some r := H
 have A5 := aM A50
 clear A50
 replace H := Option.bind_eq_some_iff.mp H
 obtain ⟨t334, A60, H⟩ := H
 replace H : (if t333 = t334 then ((spec_l01Mod.f a1_0 3).bind fun t335 => (some (t335 != 0))) else (some false)) = some r := H
 have A6 := aM A60
 clear A60
 by_cases c7 : t333 = t334
 rotate_left
 ·rw [if_neg c7] at H
  have c7b0 : (t333 == t334) = false := beq_eq_false_iff_ne.mpr c7
  have c7b1 : (t333 != t334) = true := bne_iff_ne.mpr c7
  obtain rfl := Option.some.inj H
  go_enter Try.func86, Try.ntmps86
  go_wp2_with (first | ((with_reducible refine gate_dst (N := 3) rfl ?_); refine zx 3 #[.int .i64 a1_0, .int .i64 a1_1] 59 ?_; intro gb332 hg w11 hbox hb; have n0_ := aM (below_step zb hb); have n1_ := aM (hbox); have n2_ := aM ((ze : w.heap.size ≤ gb332)); have n3_ := aM ((ze : w.heap.size ≤ gb332)); clear HB; have HB := n0_; have BK332 := n1_; have GW332 := n2_; have GE332 := n3_; clear n0_ n1_ n2_ n3_ hb hbox hg; have hcz12_0 : w11.cell? ⟨gb332, 0, none⟩ = some (.int .i64 a1_0) := (blk_cell BK332.out 0).trans rfl; have hcz12_1 : w11.cell? ⟨gb332, 1, none⟩ = some (.int .i64 a1_1) := (blk_cell BK332.out 1).trans rfl; have hfz12_0 := blk_frozen BK332.out 0; have hfz12_1 := blk_frozen BK332.out 1) | (go_at_call 103; (with_reducible refine (spec_l01Mod.calls a1_0 3 t333 _ A5.out).mono ?_); rintro e w' ⟨rfl, ⟨nd, rfl⟩⟩; (try first | exact ⟨rfl, _, World.drewN_drewN _ _ _⟩ | exact ⟨rfl, _, Eq.trans (World.drewN_drewN _ _ _) (congrArg (World.drewN _) (Nat.add_assoc _ _ _))⟩)) | (go_at_call 103; (with_reducible refine (spec_l01Mod.calls a1_1 3 t334 _ A6.out).mono ?_); rintro e w' ⟨rfl, ⟨nd, rfl⟩⟩; (try first | exact ⟨rfl, _, World.drewN_drewN _ _ _⟩ | exact ⟨rfl, _, Eq.trans (World.drewN_drewN _ _ _) (congrArg (World.drewN _) (Nat.add_assoc _ _ _))⟩)))
  repeat (go_quiet (first | ((with_reducible refine gate_dst (N := 3) rfl ?_); refine zx 3 #[.int .i64 a1_0, .int .i64 a1_1] 59 ?_; intro gb332 hg w11 hbox hb; have n0_ := aM (below_step zb hb); have n1_ := aM (hbox); have n2_ := aM ((ze : w.heap.size ≤ gb332)); have n3_ := aM ((ze : w.heap.size ≤ gb332)); clear HB; have HB := n0_; have BK332 := n1_; have GW332 := n2_; have GE332 := n3_; clear n0_ n1_ n2_ n3_ hb hbox hg; have hcz12_0 : w11.cell? ⟨gb332, 0, none⟩ = some (.int .i64 a1_0) := (blk_cell BK332.out 0).trans rfl; have hcz12_1 : w11.cell? ⟨gb332, 1, none⟩ = some (.int .i64 a1_1) := (blk_cell BK332.out 1).trans rfl; have hfz12_0 := blk_frozen BK332.out 0; have hfz12_1 := blk_frozen BK332.out 1) | (go_at_call 103; (try simp only [i64_w]); (with_reducible refine (spec_l01Mod.calls a1_0 3 t333 _ A5.out).mono ?_); rintro e w' ⟨rfl, ⟨nd, rfl⟩⟩; (try first | exact ⟨rfl, _, World.drewN_drewN _ _ _⟩ | exact ⟨rfl, _, Eq.trans (World.drewN_drewN _ _ _) (congrArg (World.drewN _) (Nat.add_assoc _ _ _))⟩)) | (go_at_call 103; (try simp only [i64_w]); (with_reducible refine (spec_l01Mod.calls a1_1 3 t334 _ A6.out).mono ?_); rintro e w' ⟨rfl, ⟨nd, rfl⟩⟩; (try first | exact ⟨rfl, _, World.drewN_drewN _ _ _⟩ | exact ⟨rfl, _, Eq.trans (World.drewN_drewN _ _ _) (congrArg (World.drewN _) (Nat.add_assoc _ _ _))⟩))); try go_wp2_with (first | ((with_reducible refine gate_dst (N := 3) rfl ?_); refine zx 3 #[.int .i64 a1_0, .int .i64 a1_1] 59 ?_; intro gb332 hg w11 hbox hb; have n0_ := aM (below_step zb hb); have n1_ := aM (hbox); have n2_ := aM ((ze : w.heap.size ≤ gb332)); have n3_ := aM ((ze : w.heap.size ≤ gb332)); clear HB; have HB := n0_; have BK332 := n1_; have GW332 := n2_; have GE332 := n3_; clear n0_ n1_ n2_ n3_ hb hbox hg; have hcz12_0 : w11.cell? ⟨gb332, 0, none⟩ = some (.int .i64 a1_0) := (blk_cell BK332.out 0).trans rfl; have hcz12_1 : w11.cell? ⟨gb332, 1, none⟩ = some (.int .i64 a1_1) := (blk_cell BK332.out 1).trans rfl; have hfz12_0 := blk_frozen BK332.out 0; have hfz12_1 := blk_frozen BK332.out 1) | (go_at_call 103; (try simp only [i64_w]); (with_reducible refine (spec_l01Mod.calls a1_0 3 t333 _ A5.out).mono ?_); rintro e w' ⟨rfl, ⟨nd, rfl⟩⟩; (try first | exact ⟨rfl, _, World.drewN_drewN _ _ _⟩ | exact ⟨rfl, _, Eq.trans (World.drewN_drewN _ _ _) (congrArg (World.drewN _) (Nat.add_assoc _ _ _))⟩)) | (go_at_call 103; (try simp only [i64_w]); (with_reducible refine (spec_l01Mod.calls a1_1 3 t334 _ A6.out).mono ?_); rintro e w' ⟨rfl, ⟨nd, rfl⟩⟩; (try first | exact ⟨rfl, _, World.drewN_drewN _ _ _⟩ | exact ⟨rfl, _, Eq.trans (World.drewN_drewN _ _ _) (congrArg (World.drewN _) (Nat.add_assoc _ _ _))⟩))))
  go_ret
  exact ⟨by first | rfl | (simp [errW_none, errW_some] <;> rfl) | (simp [*, errW_none, errW_some] <;> rfl) | (obtain rfl := Option.some.inj (A5.out.symm.trans A8.out); rfl), zs GE332.out⟩
 rw [if_pos c7] at H
 have c7b0 : (t333 == t334) = true := beq_iff_eq.mpr c7
 have c7b1 : (t333 != t334) = false := bne_eq_false_iff_eq.mpr c7
 clear c7
 replace H := Option.bind_eq_some_iff.mp H
 obtain ⟨t335, A80, H⟩ := H
 replace H : (some (t335 != 0)) = some r := H
 have A8 := aM A80
 clear A80
 obtain rfl := Option.some.inj H
 go_enter Try.func86, Try.ntmps86
 go_wp2_with (first | ((with_reducible refine gate_dst (N := 3) rfl ?_); refine zx 3 #[.int .i64 a1_0, .int .i64 a1_1] 59 ?_; intro gb332 hg w9 hbox hb; have n0_ := aM (below_step zb hb); have n1_ := aM (hbox); have n2_ := aM ((ze : w.heap.size ≤ gb332)); have n3_ := aM ((ze : w.heap.size ≤ gb332)); clear HB; have HB := n0_; have BK332 := n1_; have GW332 := n2_; have GE332 := n3_; clear n0_ n1_ n2_ n3_ hb hbox hg; have hcz10_0 : w9.cell? ⟨gb332, 0, none⟩ = some (.int .i64 a1_0) := (blk_cell BK332.out 0).trans rfl; have hcz10_1 : w9.cell? ⟨gb332, 1, none⟩ = some (.int .i64 a1_1) := (blk_cell BK332.out 1).trans rfl; have hfz10_0 := blk_frozen BK332.out 0; have hfz10_1 := blk_frozen BK332.out 1) | (go_at_call 103; (with_reducible refine (spec_l01Mod.calls a1_0 3 t333 _ A5.out).mono ?_); rintro e w' ⟨rfl, ⟨nd, rfl⟩⟩; (try first | exact ⟨rfl, _, World.drewN_drewN _ _ _⟩ | exact ⟨rfl, _, Eq.trans (World.drewN_drewN _ _ _) (congrArg (World.drewN _) (Nat.add_assoc _ _ _))⟩)) | (go_at_call 103; (with_reducible refine (spec_l01Mod.calls a1_1 3 t334 _ A6.out).mono ?_); rintro e w' ⟨rfl, ⟨nd, rfl⟩⟩; (try first | exact ⟨rfl, _, World.drewN_drewN _ _ _⟩ | exact ⟨rfl, _, Eq.trans (World.drewN_drewN _ _ _) (congrArg (World.drewN _) (Nat.add_assoc _ _ _))⟩)) | (go_at_call 103; (with_reducible refine (spec_l01Mod.calls a1_0 3 t335 _ A8.out).mono ?_); rintro e w' ⟨rfl, ⟨nd, rfl⟩⟩; (try first | exact ⟨rfl, _, World.drewN_drewN _ _ _⟩ | exact ⟨rfl, _, Eq.trans (World.drewN_drewN _ _ _) (congrArg (World.drewN _) (Nat.add_assoc _ _ _))⟩)))
 repeat (go_quiet (first | ((with_reducible refine gate_dst (N := 3) rfl ?_); refine zx 3 #[.int .i64 a1_0, .int .i64 a1_1] 59 ?_; intro gb332 hg w9 hbox hb; have n0_ := aM (below_step zb hb); have n1_ := aM (hbox); have n2_ := aM ((ze : w.heap.size ≤ gb332)); have n3_ := aM ((ze : w.heap.size ≤ gb332)); clear HB; have HB := n0_; have BK332 := n1_; have GW332 := n2_; have GE332 := n3_; clear n0_ n1_ n2_ n3_ hb hbox hg; have hcz10_0 : w9.cell? ⟨gb332, 0, none⟩ = some (.int .i64 a1_0) := (blk_cell BK332.out 0).trans rfl; have hcz10_1 : w9.cell? ⟨gb332, 1, none⟩ = some (.int .i64 a1_1) := (blk_cell BK332.out 1).trans rfl; have hfz10_0 := blk_frozen BK332.out 0; have hfz10_1 := blk_frozen BK332.out 1) | (go_at_call 103; (try simp only [i64_w]); (with_reducible refine (spec_l01Mod.calls a1_0 3 t333 _ A5.out).mono ?_); rintro e w' ⟨rfl, ⟨nd, rfl⟩⟩; (try first | exact ⟨rfl, _, World.drewN_drewN _ _ _⟩ | exact ⟨rfl, _, Eq.trans (World.drewN_drewN _ _ _) (congrArg (World.drewN _) (Nat.add_assoc _ _ _))⟩)) | (go_at_call 103; (try simp only [i64_w]); (with_reducible refine (spec_l01Mod.calls a1_1 3 t334 _ A6.out).mono ?_); rintro e w' ⟨rfl, ⟨nd, rfl⟩⟩; (try first | exact ⟨rfl, _, World.drewN_drewN _ _ _⟩ | exact ⟨rfl, _, Eq.trans (World.drewN_drewN _ _ _) (congrArg (World.drewN _) (Nat.add_assoc _ _ _))⟩)) | (go_at_call 103; (try simp only [i64_w]); (with_reducible refine (spec_l01Mod.calls a1_0 3 t335 _ A8.out).mono ?_); rintro e w' ⟨rfl, ⟨nd, rfl⟩⟩; (try first | exact ⟨rfl, _, World.drewN_drewN _ _ _⟩ | exact ⟨rfl, _, Eq.trans (World.drewN_drewN _ _ _) (congrArg (World.drewN _) (Nat.add_assoc _ _ _))⟩))); try go_wp2_with (first | ((with_reducible refine gate_dst (N := 3) rfl ?_); refine zx 3 #[.int .i64 a1_0, .int .i64 a1_1] 59 ?_; intro gb332 hg w9 hbox hb; have n0_ := aM (below_step zb hb); have n1_ := aM (hbox); have n2_ := aM ((ze : w.heap.size ≤ gb332)); have n3_ := aM ((ze : w.heap.size ≤ gb332)); clear HB; have HB := n0_; have BK332 := n1_; have GW332 := n2_; have GE332 := n3_; clear n0_ n1_ n2_ n3_ hb hbox hg; have hcz10_0 : w9.cell? ⟨gb332, 0, none⟩ = some (.int .i64 a1_0) := (blk_cell BK332.out 0).trans rfl; have hcz10_1 : w9.cell? ⟨gb332, 1, none⟩ = some (.int .i64 a1_1) := (blk_cell BK332.out 1).trans rfl; have hfz10_0 := blk_frozen BK332.out 0; have hfz10_1 := blk_frozen BK332.out 1) | (go_at_call 103; (try simp only [i64_w]); (with_reducible refine (spec_l01Mod.calls a1_0 3 t333 _ A5.out).mono ?_); rintro e w' ⟨rfl, ⟨nd, rfl⟩⟩; (try first | exact ⟨rfl, _, World.drewN_drewN _ _ _⟩ | exact ⟨rfl, _, Eq.trans (World.drewN_drewN _ _ _) (congrArg (World.drewN _) (Nat.add_assoc _ _ _))⟩)) | (go_at_call 103; (try simp only [i64_w]); (with_reducible refine (spec_l01Mod.calls a1_1 3 t334 _ A6.out).mono ?_); rintro e w' ⟨rfl, ⟨nd, rfl⟩⟩; (try first | exact ⟨rfl, _, World.drewN_drewN _ _ _⟩ | exact ⟨rfl, _, Eq.trans (World.drewN_drewN _ _ _) (congrArg (World.drewN _) (Nat.add_assoc _ _ _))⟩)) | (go_at_call 103; (try simp only [i64_w]); (with_reducible refine (spec_l01Mod.calls a1_0 3 t335 _ A8.out).mono ?_); rintro e w' ⟨rfl, ⟨nd, rfl⟩⟩; (try first | exact ⟨rfl, _, World.drewN_drewN _ _ _⟩ | exact ⟨rfl, _, Eq.trans (World.drewN_drewN _ _ _) (congrArg (World.drewN _) (Nat.add_assoc _ _ _))⟩))))
 go_ret
 exact ⟨by first | rfl | (simp [errW_none, errW_some] <;> rfl) | (simp [*, errW_none, errW_some] <;> rfl) | (obtain rfl := Option.some.inj (A5.out.symm.trans A8.out); rfl), zs GE332.out⟩
end Go.Proofs.Ytlnliahadgmbcaa.F
end
section
namespace Go.Proofs.Ytlnliahadgmbcaa.F
open Go.RowKit Go.Proofs.YtlnliahadgmbcaaW.PrintWords Go.Proofs.YtlnliahadgmbcaaW.PrintLast Go.Proofs.YtlnliahadgmbcaaW.PrintMore
attribute [local go_sem] max2_int min2_int max_two min_two max_three min_three max_four min_four
set_option linter.unusedVariables false
set_option linter.unusedSimpArgs false
def impl_IsShape.l0 : Nat → List (S59) → List (S59) → Int → Int → Option (Bool)
 | 0, _, _, _, _ => none
 | k + 1, x0, x5, x6, x7 => if x7 < x6 then (if 0 ≤ x7 then (if x7 < (x5.length : Int) then ((impl_isCoordinate.f ((rd_T59 x5 x7).f0)).bind fun t260 => (if t260 = true then ((impl_isCoordinate.f ((rd_T59 x5 x7).f1)).bind fun t261 => (if t261 = true then (if x7 > 0 then (if 0 ≤ (wrap64 (x7 - 1)) then (if (wrap64 (x7 - 1)) < (x0.length : Int) then ((impl_compareCells.f ((rd_T59 x0 (wrap64 (x7 - 1))).f0) ((rd_T59 x0 (wrap64 (x7 - 1))).f1) ((rd_T59 x5 x7).f0) ((rd_T59 x5 x7).f1)).bind fun t263 => (if t263 ≥ 0 then (some false) else (impl_IsShape.l0 k x0 x5 x6 (wrap64 (x7 + 1))))) else (none)) else (none)) else (impl_IsShape.l0 k x0 x5 x6 (wrap64 (x7 + 1)))) else (some false))) else (some false))) else (none)) else (none)) else (if (x0.length : Int) ≥ 1 then (some (decide ((x0.length : Int) ≤ 40))) else (some false))
def impl_IsShape.f (k : Nat) (l0 : List (S59)) : Option (Bool) := impl_IsShape.l0 k l0 l0 (l0.length : Int) 0
def impl_IsShape.T4 : Bool × List (List Nat × List Nat) := (true, [([], []), ([0], [0]), ([1], [1]), ([2], [2]), ([3, 2], [3]), ([4], [4]), ([5, 4], [4, 5]), ([6, 4, 4], [4, 6]), ([7, 4], [4, 7]), ([4, 8], [4, 8]), ([9, 7], [9]), ([10], [10]), ([11, 10], [10, 11]), ([12, 10, 10], [10, 12]), ([13], [13]), ([13], [13]), ([15, 13], [13, 15]), ([14, 16, 13], [13, 14, 16]), ([17, 13], [13, 17]), ([13], [13]), ([18, 19, 13, 13], [13, 18, 19]), ([20, 13], [13, 20]), ([13, 21, 10], [10, 13, 21]), ([10, 22], [10, 22])])
def impl_IsShape.B4 : List Nat := [0, 1, 3, 7, 15, 31, 63, 127, 255, 511, 1023, 2047, 4095, 8191, 16383, 16383, 49151, 131071, 262143, 16383, 1048575, 2097151, 4194303, 8388607]
theorem impl_IsShape.tab4 : rtab .any (opsOf Try.f40 4) = impl_IsShape.T4 := by kernel_rfl
theorem impl_IsShape.bits4 : waitsOk impl_IsShape.T4.2 impl_IsShape.B4 = true := by kernel_rfl
end Go.Proofs.Ytlnliahadgmbcaa.F
end
