/- The row of FnExactPuzzleText, with what it needs: text 6 of 11. -/
import Derived.Test.YtipafadbhmngnaaGreatDoorQ4
set_option maxHeartbeats 8000000
set_option maxRecDepth 100000
section
namespace Go.Proofs.YtipafadbhmngnaaGreatDoor.F
open Go.RowKit Go.Proofs.YtipafadbhmngnaaGreatDoorW.PrintWords Go.Proofs.YtipafadbhmngnaaGreatDoorW.PrintLast Go.Proofs.YtipafadbhmngnaaGreatDoorW.PrintMore
attribute [local go_sem] max2_int min2_int max_two min_two max_three min_three max_four min_four
set_option linter.unusedVariables false
set_option linter.unusedSimpArgs false
theorem spec_PuzzleText.calls (k : Nat) (A0_0 : Option Addr) (c0_0 : Nat) (l0_0 : List (S82)) (A0_1 : Option Addr) (c0_1 : Nat) (l0_1 : List (S50)) (r : ByteArray) (w : World) (hr0_0 : Kd.C k82 w A0_0 l0_0.length l0_0) (hc0_0 : l0_0.length ≤ c0_0) (hr0_1 : Kd.C k50 w A0_1 l0_1.length l0_1) (hc0_1 : l0_1.length ≤ c0_1) (h : spec_PuzzleText.f k l0_0 l0_1 = some r) :
  Calls Tryz.prog 7 #[.agg #[.slice A0_0 l0_0.length c0_0, .slice A0_1 l0_1.length c0_1]] w fun e w' => e = .returned (.string r) ∧ Below w.heap.size w w' := by
 have hu31 := Tryz.underlying31
 have HR0_0 := aM hr0_0
 have HC0_0 := aM hc0_0
 clear hr0_0 hc0_0
 have HR0_1 := aM hr0_1
 have HC0_1 := aM hc0_1
 clear hr0_1 hc0_1
 have HB := aM (Below.refl w.heap.size w)
 have H : ((spec_IsPuzzle.f k l0_0 l0_1).bind fun t325 => (if t325 = true then ((spec_l04Text.f k l0_0).bind fun t326 => (spec_PuzzleText.l0 k t326 0 l0_0 l0_1)) else (some (⟨#[]⟩ : ByteArray)))) = some r := h
 clear h
 replace H := Option.bind_eq_some_iff.mp H
 obtain ⟨t325, A20, H⟩ := H
 replace H : (if t325 = true then ((spec_l04Text.f k l0_0).bind fun t326 => (spec_PuzzleText.l0 k t326 0 l0_0 l0_1)) else (some (⟨#[]⟩ : ByteArray))) = some r := H
 have A2 := aM A20
 clear A20
 by_cases c3 : t325 = true
 rotate_left
 ·replace c3 := Bool.eq_false_iff.mpr c3
  subst c3
  have H1 : (some (⟨#[]⟩ : ByteArray)) = some r := by rw [if_neg (show ¬ (false = true) by decide)] at H; exact H
  clear H
  have H := H1
  clear H1
  obtain rfl := Option.some.inj H
  go_enter Tryz.func7, Tryz.ntmps7
  go_wp2_with (first | ((with_reducible refine gate_dst (N := 1) rfl ?_); refine zx 1 #[.slice A0_0 l0_0.length c0_0, .slice A0_1 l0_1.length c0_1] 31 ?_; intro gb324 hg w35 hbox hb; have _ := aM (below_step zb hb); have _ := aM (hbox); have _ := aM ((ze : w.heap.size ≤ gb324)); have _ := aM ((ze : w.heap.size ≤ gb324)); clear HB; rename_i HB BK324 GW324 GE324; clear hb hbox hg; obtain ⟨hcz36_0, hcz36_1, hfz36_0, hfz36_1⟩ := zQ2 BK324.out) | ((with_reducible refine gate_callee (f := 25) rfl ?_); refine goesL_ (some 7) rfl rfl Tryz.func25 (by kernel_rfl) rfl #[.agg #[.slice A0_0 l0_0.length c0_0, .slice A0_1 l0_1.length c0_1]] rfl zm ?_; (with_reducible refine (spec_IsPuzzle.calls k _ _ l0_0 _ _ l0_1 false _ ?side1 ?side2 ?side3 ?side4 A2.out).mono ?_); (case side1 => repeat (first | exact (Kd.C_below HR0_0.out HB.out) | (with_reducible refine Kd.C_alloc ?_ _) | (with_reducible refine Kd.C_drewN ?_ _) | (with_reducible refine Kd.C_drew ?_))); (case side2 => exact HC0_0.out); (case side3 => repeat (first | exact (Kd.C_below HR0_1.out HB.out) | (with_reducible refine Kd.C_alloc ?_ _) | (with_reducible refine Kd.C_drewN ?_ _) | (with_reducible refine Kd.C_drew ?_))); (case side4 => exact HC0_1.out); rintro e w37 ⟨rfl, hb⟩; refine ⟨_, rfl, ?_⟩; have _ := aM (blk_below (g := gb324) (o := .cells #[.slice A0_0 l0_0.length c0_0, .slice A0_1 l0_1.length c0_1] 31 (0, 0)) (mB_ BK324.out) hb); have _ := aM (below_step (zs GE324.out) hb); clear BK324 HB; rename_i BK324 HB; (try clear hb); (try clear hb2); (try clear hk); (try clear hi)))
  go_ret
  exact ⟨zw, zs GE324.out⟩
 subst c3
 have H1 : ((spec_l04Text.f k l0_0).bind fun t326 => (spec_PuzzleText.l0 k t326 0 l0_0 l0_1)) = some r := by rw [if_pos rfl] at H; exact H
 clear H
 have H := H1
 clear H1
 replace H := Option.bind_eq_some_iff.mp H
 obtain ⟨t326, A40, H⟩ := H
 replace H : (spec_PuzzleText.l0 k t326 0 l0_0 l0_1) = some r := H
 have A4 := aM A40
 clear A40
 have H' := aM H
 clear H
 go_enter Tryz.func7, Tryz.ntmps7
 go_wp2_with (first | ((with_reducible refine gate_dst (N := 1) rfl ?_); refine zx 1 #[.slice A0_0 l0_0.length c0_0, .slice A0_1 l0_1.length c0_1] 31 ?_; intro gb324 hg w5 hbox hb; have _ := aM (below_step zb hb); have _ := aM (hbox); have _ := aM ((ze : w.heap.size ≤ gb324)); have _ := aM ((ze : w.heap.size ≤ gb324)); clear HB; rename_i HB BK324 GW324 GE324; clear hb hbox hg; obtain ⟨hcz6_0, hcz6_1, hfz6_0, hfz6_1⟩ := zQ2 BK324.out) | ((with_reducible refine gate_callee (f := 25) rfl ?_); refine goesL_ (some 7) rfl rfl Tryz.func25 (by kernel_rfl) rfl #[.agg #[.slice A0_0 l0_0.length c0_0, .slice A0_1 l0_1.length c0_1]] rfl zm ?_; (with_reducible refine (spec_IsPuzzle.calls k _ _ l0_0 _ _ l0_1 true _ ?side1 ?side2 ?side3 ?side4 A2.out).mono ?_); (case side1 => repeat (first | exact (Kd.C_below HR0_0.out HB.out) | (with_reducible refine Kd.C_alloc ?_ _) | (with_reducible refine Kd.C_drewN ?_ _) | (with_reducible refine Kd.C_drew ?_))); (case side2 => exact HC0_0.out); (case side3 => repeat (first | exact (Kd.C_below HR0_1.out HB.out) | (with_reducible refine Kd.C_alloc ?_ _) | (with_reducible refine Kd.C_drewN ?_ _) | (with_reducible refine Kd.C_drew ?_))); (case side4 => exact HC0_1.out); rintro e w7 ⟨rfl, hb⟩; refine ⟨_, rfl, ?_⟩; have _ := aM (blk_below (g := gb324) (o := .cells #[.slice A0_0 l0_0.length c0_0, .slice A0_1 l0_1.length c0_1] 31 (0, 0)) (mB_ BK324.out) hb); have _ := aM (below_step (zs GE324.out) hb); clear BK324 HB; rename_i BK324 HB; (try clear hb); (try clear hb2); (try clear hk); (try clear hi); obtain ⟨hcz8_0, hcz8_1, hfz8_0, hfz8_1⟩ := zQ2 BK324.out) | ((with_reducible refine gate_callee (f := 26) rfl ?_); refine goesL_ (some 11) rfl rfl Tryz.func26 (by kernel_rfl) rfl #[.slice A0_0 l0_0.length c0_0] rfl zm ?_; (with_reducible refine (spec_l04Text.calls k _ _ l0_0 t326 _ ?side1 ?side2 A4.out).mono ?_); (case side1 => repeat (first | exact (Kd.C_below HR0_0.out HB.out) | (with_reducible refine Kd.C_alloc ?_ _) | (with_reducible refine Kd.C_drewN ?_ _) | (with_reducible refine Kd.C_drew ?_))); (case side2 => exact HC0_0.out); rintro e w9 ⟨rfl, hb⟩; refine ⟨_, rfl, ?_⟩; have _ := aM (blk_below (g := gb324) (o := .cells #[.slice A0_0 l0_0.length c0_0, .slice A0_1 l0_1.length c0_1] 31 (0, 0)) (mB_ BK324.out) hb); have _ := aM (below_step (zs GE324.out) hb); clear BK324 HB; rename_i BK324 HB; (try clear hb); (try clear hb2); (try clear hk); (try clear hi)))
 go_loopg [3, 4] k (fun kq v3 v4 w' => ∃ (x3_1 : ByteArray) (x4_1 : Int), v3 = .string x3_1 ∧ v4 = .int .i64 x4_1 ∧ Aside0 (spec_PuzzleText.l0 kq x3_1 x4_1 l0_0 l0_1 = some r) ∧ Aside0 (kq ≤ k) ∧ Aside0 (w'.heap[gb324]? = some (.cells #[(.slice A0_0 l0_0.length c0_0), (.slice A0_1 l0_1.length c0_1)] 31 (0, 0))) ∧ Aside0 (Below w.heap.size w w'))
 case atStart => exact ⟨(t326), (0), zr, zr, H', ⟨Nat.le_refl _⟩, ⟨mB_ BK324.out⟩, ⟨zs GE324.out⟩⟩
 case round =>
  clear H'
  try clear c2
  try clear p2
  try clear c3
  try clear c7
  try clear hcz6_0
  try clear hcz6_1
  try clear hcz8_0
  try clear hcz8_1
  try clear hfz6_0
  try clear hfz6_1
  try clear hfz8_0
  try clear hfz8_1
  obtain ⟨x3_1, x4_1, rfl, rfl, HA, HK1, BK324, HB⟩ := hrel
  cases gk with
  | zero => exact absurd HA.out (by simp [spec_PuzzleText.l0])
  | succ k1 =>
   have H := HA.out
   clear HA
   simp only [spec_PuzzleText.l0] at H
   by_cases c10 : x4_1 < (l0_1.length : Int)
   rotate_left
   ·rw [if_neg c10] at H
    have c10b0 : decide (x4_1 < (l0_1.length : Int)) = false := decide_eq_false c10
    clear c10
    obtain rfl := Option.some.inj H
    obtain ⟨hcz34_0, hcz34_1, hfz34_0, hfz34_1⟩ := zQ2 BK324.out
    go_wp2
    go_ret
    exact ⟨zw, zs GE324.out⟩
   rw [if_pos c10] at H
   have c10b0 : decide (x4_1 < (l0_1.length : Int)) = true := decide_eq_true c10
   clear c10
   by_cases c11 : 0 ≤ x4_1
   rotate_left
   ·rw [if_neg c11] at H
    exact absurd H (by simp)
   rw [if_pos c11] at H
   have c11b0 : decide (0 ≤ x4_1) = true := decide_eq_true c11
   clear c11
   obtain ⟨bq12, hbq12⟩ : ∃ b_ : Bool, b_ = ((rd_T50 l0_1 x4_1).f2) := ⟨_, rfl⟩
   replace H : (if bq12 = true then (if x3_1.size + 1 ≤ 9223372036854775807 then ((spec_l01Dec.f k1 ((rd_T50 l0_1 x4_1).f1)).bind fun t329 => (if (x3_1 ++ (⟨#[32]⟩ : ByteArray)).size + t329.size ≤ 9223372036854775807 then (if ((x3_1 ++ (⟨#[32]⟩ : ByteArray)) ++ t329).size + 1 ≤ 9223372036854775807 then ((spec_l04Text.f k1 ((rd_T50 l0_1 x4_1).f0)).bind fun t331 => (if (((x3_1 ++ (⟨#[32]⟩ : ByteArray)) ++ t329) ++ (⟨#[42]⟩ : ByteArray)).size + t331.size ≤ 9223372036854775807 then (spec_PuzzleText.l0 k1 ((((x3_1 ++ (⟨#[32]⟩ : ByteArray)) ++ t329) ++ (⟨#[42]⟩ : ByteArray)) ++ t331) (wrap64 (x4_1 + 1)) l0_0 l0_1) else (none))) else (none)) else (none))) else (none)) else (if x3_1.size + 1 ≤ 9223372036854775807 then ((spec_l01Dec.f k1 ((rd_T50 l0_1 x4_1).f1)).bind fun t333 => (if (x3_1 ++ (⟨#[32]⟩ : ByteArray)).size + t333.size ≤ 9223372036854775807 then (if ((x3_1 ++ (⟨#[32]⟩ : ByteArray)) ++ t333).size + 1 ≤ 9223372036854775807 then ((spec_l04Text.f k1 ((rd_T50 l0_1 x4_1).f0)).bind fun t335 => (if (((x3_1 ++ (⟨#[32]⟩ : ByteArray)) ++ t333) ++ (⟨#[43]⟩ : ByteArray)).size + t335.size ≤ 9223372036854775807 then (spec_PuzzleText.l0 k1 ((((x3_1 ++ (⟨#[32]⟩ : ByteArray)) ++ t333) ++ (⟨#[43]⟩ : ByteArray)) ++ t335) (wrap64 (x4_1 + 1)) l0_0 l0_1) else (none))) else (none)) else (none))) else (none))) = some r := by rw [← hbq12] at H; exact H
   have Nbq12 := aM hbq12
   clear hbq12
   by_cases c13 : bq12 = true
   ·subst c13
    have H1 : (if x3_1.size + 1 ≤ 9223372036854775807 then ((spec_l01Dec.f k1 ((rd_T50 l0_1 x4_1).f1)).bind fun t329 => (if (x3_1 ++ (⟨#[32]⟩ : ByteArray)).size + t329.size ≤ 9223372036854775807 then (if ((x3_1 ++ (⟨#[32]⟩ : ByteArray)) ++ t329).size + 1 ≤ 9223372036854775807 then ((spec_l04Text.f k1 ((rd_T50 l0_1 x4_1).f0)).bind fun t331 => (if (((x3_1 ++ (⟨#[32]⟩ : ByteArray)) ++ t329) ++ (⟨#[42]⟩ : ByteArray)).size + t331.size ≤ 9223372036854775807 then (spec_PuzzleText.l0 k1 ((((x3_1 ++ (⟨#[32]⟩ : ByteArray)) ++ t329) ++ (⟨#[42]⟩ : ByteArray)) ++ t331) (wrap64 (x4_1 + 1)) l0_0 l0_1) else (none))) else (none)) else (none))) else (none)) = some r := by rw [if_pos rfl] at H; exact H
    clear H
    have H := H1
    clear H1
    by_cases c14 : x3_1.size + 1 ≤ 9223372036854775807
    rotate_left
    ·rw [if_neg c14] at H
     exact absurd H (by simp)
    rw [if_pos c14] at H
    have c14b0 := eq_true c14
    have c14b1 : decide (x3_1.size + 1 ≤ 9223372036854775807) = true := decide_eq_true c14
    try have c14b2 : (9223372036854775807 < x3_1.size + 1) = False := eq_false (Nat.not_lt.2 c14)
    replace H := Option.bind_eq_some_iff.mp H
    obtain ⟨t329, A150, H⟩ := H
    replace H : (if (x3_1 ++ (⟨#[32]⟩ : ByteArray)).size + t329.size ≤ 9223372036854775807 then (if ((x3_1 ++ (⟨#[32]⟩ : ByteArray)) ++ t329).size + 1 ≤ 9223372036854775807 then ((spec_l04Text.f k1 ((rd_T50 l0_1 x4_1).f0)).bind fun t331 => (if (((x3_1 ++ (⟨#[32]⟩ : ByteArray)) ++ t329) ++ (⟨#[42]⟩ : ByteArray)).size + t331.size ≤ 9223372036854775807 then (spec_PuzzleText.l0 k1 ((((x3_1 ++ (⟨#[32]⟩ : ByteArray)) ++ t329) ++ (⟨#[42]⟩ : ByteArray)) ++ t331) (wrap64 (x4_1 + 1)) l0_0 l0_1) else (none))) else (none)) else (none)) = some r := H
    have A15 := aM A150
    clear A150
    by_cases c16 : (x3_1 ++ (⟨#[32]⟩ : ByteArray)).size + t329.size ≤ 9223372036854775807
    rotate_left
    ·rw [if_neg c16] at H
     exact absurd H (by simp)
    rw [if_pos c16] at H
    have c16b0 := eq_true c16
    have c16b1 : decide ((x3_1 ++ (⟨#[32]⟩ : ByteArray)).size + t329.size ≤ 9223372036854775807) = true := decide_eq_true c16
    try have c16b2 : (9223372036854775807 < (x3_1 ++ (⟨#[32]⟩ : ByteArray)).size + t329.size) = False := eq_false (Nat.not_lt.2 c16)
    try have c16b3 := c16b2
    try simp only [ByteArray.size_append, show (⟨#[32]⟩ : ByteArray).size = 1 from rfl, show (⟨#[42]⟩ : ByteArray).size = 1 from rfl, show (⟨#[43]⟩ : ByteArray).size = 1 from rfl] at c16b3
    by_cases c17 : ((x3_1 ++ (⟨#[32]⟩ : ByteArray)) ++ t329).size + 1 ≤ 9223372036854775807
    rotate_left
    ·rw [if_neg c17] at H
     exact absurd H (by simp)
    rw [if_pos c17] at H
    have c17b0 := eq_true c17
    have c17b1 : decide (((x3_1 ++ (⟨#[32]⟩ : ByteArray)) ++ t329).size + 1 ≤ 9223372036854775807) = true := decide_eq_true c17
    try have c17b2 : (9223372036854775807 < ((x3_1 ++ (⟨#[32]⟩ : ByteArray)) ++ t329).size + 1) = False := eq_false (Nat.not_lt.2 c17)
    try have c17b3 := c17b2
    try simp only [ByteArray.size_append, show (⟨#[32]⟩ : ByteArray).size = 1 from rfl, show (⟨#[42]⟩ : ByteArray).size = 1 from rfl, show (⟨#[43]⟩ : ByteArray).size = 1 from rfl] at c17b3
    replace H := Option.bind_eq_some_iff.mp H
    obtain ⟨t331, A180, H⟩ := H
    replace H : (if (((x3_1 ++ (⟨#[32]⟩ : ByteArray)) ++ t329) ++ (⟨#[42]⟩ : ByteArray)).size + t331.size ≤ 9223372036854775807 then (spec_PuzzleText.l0 k1 ((((x3_1 ++ (⟨#[32]⟩ : ByteArray)) ++ t329) ++ (⟨#[42]⟩ : ByteArray)) ++ t331) (wrap64 (x4_1 + 1)) l0_0 l0_1) else (none)) = some r := H
    have A18 := aM A180
    clear A180
    by_cases c19 : (((x3_1 ++ (⟨#[32]⟩ : ByteArray)) ++ t329) ++ (⟨#[42]⟩ : ByteArray)).size + t331.size ≤ 9223372036854775807
    rotate_left
    ·rw [if_neg c19] at H
     exact absurd H (by simp)
    rw [if_pos c19] at H
    have c19b0 := eq_true c19
    have c19b1 : decide ((((x3_1 ++ (⟨#[32]⟩ : ByteArray)) ++ t329) ++ (⟨#[42]⟩ : ByteArray)).size + t331.size ≤ 9223372036854775807) = true := decide_eq_true c19
    try have c19b2 : (9223372036854775807 < (((x3_1 ++ (⟨#[32]⟩ : ByteArray)) ++ t329) ++ (⟨#[42]⟩ : ByteArray)).size + t331.size) = False := eq_false (Nat.not_lt.2 c19)
    try have c19b3 := c19b2
    try simp only [ByteArray.size_append, show (⟨#[32]⟩ : ByteArray).size = 1 from rfl, show (⟨#[42]⟩ : ByteArray).size = 1 from rfl, show (⟨#[43]⟩ : ByteArray).size = 1 from rfl] at c19b3
    have H' := aM H
    clear H
    obtain ⟨hcz20_0, hcz20_1, hfz20_0, hfz20_1⟩ := zQ2 BK324.out
    have p327 : 0 ≤ (x4_1 : Int) := of_decide_eq_true za
    have q327 : x4_1 < (l0_1.length : Int) := of_decide_eq_true za
    obtain ⟨ad327, A327_0, c327_0, e327, hx327_0, hx327_1, hx327_2, hl327_0, hi327_0⟩ := at_T50 HR0_1.out x4_1 p327 q327
    (try rw [← Nbq12.out] at hx327_2); (try rw [← Nbq12.out] at hw327_2)
    cases e327
    replace hx327_0 := zk HB.out hx327_0
    replace hx327_1 := zk HB.out hx327_1
    replace hx327_2 := zk HB.out hx327_2
    have HR327_0 := aM hi327_0
    have HC327_0 := aM hl327_0
    clear hi327_0 hl327_0
    replace p327 := eq_true p327
    replace q327 := eq_true q327
    try go_wp2
    have _ := aM (blk_drew BK324.out)
    have _ := aM (below_drew1 HB.out)
    clear BK324
    clear HB
    rename_i BK324 HB
    have p328 : 0 ≤ (x4_1 : Int) := of_decide_eq_true za
    have q328 : x4_1 < (l0_1.length : Int) := of_decide_eq_true za
    obtain ⟨ad328, A328_0, c328_0, e328, hx328_0, hx328_1, hx328_2, hl328_0, hi328_0⟩ := at_T50 HR0_1.out x4_1 p328 q328
    have hw328_2 := hx328_2
    have hw328_1 := hx328_1
    have hw328_0 := hx328_0
    (try rw [← Nbq12.out] at hx328_2); (try rw [← Nbq12.out] at hw328_2)
    obtain rfl : ad327 = ad328 := (by injection e328)
    replace hx328_0 := zk HB.out hx328_0
    replace hx328_1 := zk HB.out hx328_1
    replace hx328_2 := zk HB.out hx328_2
    have HR328_0 := aM hi328_0
    have HC328_0 := aM hl328_0
    clear hi328_0 hl328_0
    replace p328 := eq_true p328
    replace q328 := eq_true q328
    have p330 : 0 ≤ (x4_1 : Int) := of_decide_eq_true za
    have q330 : x4_1 < (l0_1.length : Int) := of_decide_eq_true za
    obtain ⟨ad330, A330_0, c330_0, e330, hx330_0, hx330_1, hx330_2, hl330_0, hi330_0⟩ := at_T50 HR0_1.out x4_1 p330 q330
    have hw330_2 := hx330_2
    have hw330_1 := hx330_1
    have hw330_0 := hx330_0
    (try rw [← Nbq12.out] at hx330_2); (try rw [← Nbq12.out] at hw330_2)
    obtain rfl : ad327 = ad330 := (by injection e330)
    replace hx330_0 := zk HB.out hx330_0
    replace hx330_1 := zk HB.out hx330_1
    replace hx330_2 := zk HB.out hx330_2
    have HR330_0 := aM hi330_0
    have HC330_0 := aM hl330_0
    clear hi330_0 hl330_0
    replace p330 := eq_true p330
    replace q330 := eq_true q330
    have ea_ := Option.some.inj (hx328_0.symm.trans hx330_0)
    injection ea_ with ea_ en_ ec_
    subst ea_
    subst ec_
    clear en_
    refine start_ (n := 21) (S := fun w' => w'.cell? ⟨gb324, 0, none⟩ = some (.slice A0_0 l0_0.length c0_0) ∧ w'.cell? ⟨gb324, 1, none⟩ = some (.slice (some ad327) l0_1.length c0_1) ∧ w'.cell? (ad327.add ((x4_1).toNat * 3)) = some (.slice A328_0 ((rd_T50 l0_1 x4_1).f0).length c328_0) ∧ w'.cell? ⟨(ad327.add ((x4_1).toNat * 3)).block, (ad327.add ((x4_1).toNat * 3)).off + 1, none⟩ = some (.int .i64 ((rd_T50 l0_1 x4_1).f1)) ∧ w'.cell? ⟨(ad327.add ((x4_1).toNat * 3)).block, (ad327.add ((x4_1).toNat * 3)).off + 2, none⟩ = some (.bool (true)) ∧ w'.cell? (ad327.add ((x4_1).toNat * 3)) = some (.slice A328_0 ((rd_T50 l0_1 x4_1).f0).length c328_0) ∧ w'.cell? ⟨(ad327.add ((x4_1).toNat * 3)).block, (ad327.add ((x4_1).toNat * 3)).off + 1, none⟩ = some (.int .i64 ((rd_T50 l0_1 x4_1).f1)) ∧ w'.cell? ⟨(ad327.add ((x4_1).toNat * 3)).block, (ad327.add ((x4_1).toNat * 3)).off + 2, none⟩ = some (.bool (true))) (ds := []) zA86 (by kernel_rfl) rfl rfl ⟨(blk_cell BK324.out 0).trans rfl, (blk_cell BK324.out 1).trans rfl, (zk HB.out hw328_0), (zk HB.out hw328_1), (zk HB.out hw328_2), (zk HB.out hw330_0), (zk HB.out hw330_1), (zk HB.out hw330_2)⟩ (fun hHeld => ?_); refine with_tabW spec_PuzzleText.tab10 spec_PuzzleText.bits10 (fun HT_ HW_ => ?_)
    generalize wr.drew = w21 at BK324 HB HR328_0 HR330_0 hx328_0 hx328_1 hx328_2 hx330_0 hx330_1 hx330_2 hHeld ⊢
    refine zP 0 (some 25) zA87 ?_
    refine zP 1 (some 26) zA88 ?_
    refine zP 2 (some 27) zA89 ?_
    refine zP 4 (some 29) zA90 ?_
    refine zP 10 (some 35) zA91 ?_
    refine zP 12 (some 37) zA92 ?_
    refine zP 14 (some 39) zA93 ?_
    refine zU8 3 (some 28) zA94 hHeld ?_
    refine zP 5 (some 30) zA95 ?_
    refine zP 6 (some 31) zA96 ?_
    refine zU8 7 (some 32) zA97 hHeld ?_
    refine zU8 13 (some 38) zA98 hHeld ?_
    refine zP 15 (some 40) zA99 ?_
    refine zP 16 (some 41) zA100 ?_
    refine zU8 17 (some 42) zA101 hHeld ?_
    refine one_ (i := 8) (N := some 33) zA102 rfl rfl (one_of HT_.out (by kernel_rfl)) (by decide) (fun K hK => ?_)
    refine goes_ Tryz.func27 (by kernel_rfl) rfl #[.int .i64 ((rd_T50 l0_1 x4_1).f1)] (by rfl) rfl rfl zm ?_
    with_reducible refine (spec_l01Dec.calls k1 ((rd_T50 l0_1 x4_1).f1) t329 _ A15.out).mono ?_
    rintro e w22 ⟨rfl, hb⟩
    refine ⟨_, rfl, ?_⟩
    have _ := aM (blk_below (g := gb324) (o := .cells #[.slice A0_0 l0_0.length c0_0, .slice (some ad327) l0_1.length c0_1] 31 (0, 0)) (mB_ BK324.out) hb)
    have _ := aM (below_step (zs GE324.out) hb)
    clear BK324
    clear HB
    rename_i BK324 HB
    (try clear hb)
    (try clear hb2)
    (try clear hk)
    (try clear hi)
    refine hK.out _ _ ⟨(blk_cell BK324.out 0).trans rfl, (blk_cell BK324.out 1).trans rfl, (zk HB.out hw328_0), (zk HB.out hw328_1), (zk HB.out hw328_2), (zk HB.out hw330_0), (zk HB.out hw330_1), (zk HB.out hw330_2)⟩ (fun hHeld => ?_)
    clear hK K
    refine norm_ (a' := ?_) ?_ ?_
    rotate_left
    ·show Act.put _ (some 33) _ = _
     simp only [Act.put, xA, xB, xC, i64_w, i32_w]
     rfl
    refine zP 9 (some 34) zA103 ?_
    refine zP 11 (some 36) zA104 ?_
    refine one_ (i := 18) (N := some 43) zA105 rfl rfl (one_of HT_.out (by kernel_rfl)) (by decide) (fun K hK => ?_)
    refine goes_ Tryz.func26 (by kernel_rfl) rfl #[.slice A328_0 ((rd_T50 l0_1 x4_1).f0).length c328_0] (by rfl) rfl rfl zm ?_
    with_reducible refine (spec_l04Text.calls k1 _ _ ((rd_T50 l0_1 x4_1).f0) t331 _ ?side1 ?side2 A18.out).mono ?_
    (case side1 => repeat (first | exact (Kd.C_below HR330_0.out HB.out) | (with_reducible refine Kd.C_alloc ?_ _) | (with_reducible refine Kd.C_drewN ?_ _) | (with_reducible refine Kd.C_drew ?_)))
    (case side2 => exact HC330_0.out)
    rintro e w23 ⟨rfl, hb⟩
    refine ⟨_, rfl, ?_⟩
    have _ := aM (blk_below (g := gb324) (o := .cells #[.slice A0_0 l0_0.length c0_0, .slice (some ad327) l0_1.length c0_1] 31 (0, 0)) (mB_ BK324.out) hb)
    have _ := aM (below_step (zs GE324.out) hb)
    clear BK324
    clear HB
    rename_i BK324 HB
    (try clear hb)
    (try clear hb2)
    (try clear hk)
    (try clear hi)
    refine hK.out _ _ ⟨(blk_cell BK324.out 0).trans rfl, (blk_cell BK324.out 1).trans rfl, (zk HB.out hw328_0), (zk HB.out hw328_1), (zk HB.out hw328_2), (zk HB.out hw330_0), (zk HB.out hw330_1), (zk HB.out hw330_2)⟩ (fun hHeld => ?_)
    clear hK K
    refine norm_ (a' := ?_) ?_ ?_
    rotate_left
    ·show Act.put _ (some 43) _ = _
     simp only [Act.put, xA, xB, xC, i64_w, i32_w]
     rfl
    refine zP 19 (some 44) zA106 ?_
    refine zP 20 (some 3) zA107 ?_
    refine done_ (done_of HT_.out (by kernel_rfl)) ?_
    try go_wp2
    go_roundg k1
    case measure => have := HK1.out; omega
    case rel => exact ⟨((((x3_1 ++ (⟨#[32]⟩ : ByteArray)) ++ t329) ++ (⟨#[42]⟩ : ByteArray)) ++ t331), (wrap64 (x4_1 + 1)), zr, zr, H', ⟨by have := HK1.out; omega⟩, ⟨mB_ BK324.out⟩, ⟨zs GE324.out⟩⟩
   replace c13 := Bool.eq_false_iff.mpr c13
   subst c13
   have H1 : (if x3_1.size + 1 ≤ 9223372036854775807 then ((spec_l01Dec.f k1 ((rd_T50 l0_1 x4_1).f1)).bind fun t333 => (if (x3_1 ++ (⟨#[32]⟩ : ByteArray)).size + t333.size ≤ 9223372036854775807 then (if ((x3_1 ++ (⟨#[32]⟩ : ByteArray)) ++ t333).size + 1 ≤ 9223372036854775807 then ((spec_l04Text.f k1 ((rd_T50 l0_1 x4_1).f0)).bind fun t335 => (if (((x3_1 ++ (⟨#[32]⟩ : ByteArray)) ++ t333) ++ (⟨#[43]⟩ : ByteArray)).size + t335.size ≤ 9223372036854775807 then (spec_PuzzleText.l0 k1 ((((x3_1 ++ (⟨#[32]⟩ : ByteArray)) ++ t333) ++ (⟨#[43]⟩ : ByteArray)) ++ t335) (wrap64 (x4_1 + 1)) l0_0 l0_1) else (none))) else (none)) else (none))) else (none)) = some r := by rw [if_neg (show ¬ (false = true) by decide)] at H; exact H
   clear H
   have H := H1
   clear H1
   by_cases c24 : x3_1.size + 1 ≤ 9223372036854775807
   rotate_left
   ·rw [if_neg c24] at H
    exact absurd H (by simp)
   rw [if_pos c24] at H
   have c24b0 := eq_true c24
   have c24b1 : decide (x3_1.size + 1 ≤ 9223372036854775807) = true := decide_eq_true c24
   try have c24b2 : (9223372036854775807 < x3_1.size + 1) = False := eq_false (Nat.not_lt.2 c24)
   replace H := Option.bind_eq_some_iff.mp H
   obtain ⟨t333, A250, H⟩ := H
   replace H : (if (x3_1 ++ (⟨#[32]⟩ : ByteArray)).size + t333.size ≤ 9223372036854775807 then (if ((x3_1 ++ (⟨#[32]⟩ : ByteArray)) ++ t333).size + 1 ≤ 9223372036854775807 then ((spec_l04Text.f k1 ((rd_T50 l0_1 x4_1).f0)).bind fun t335 => (if (((x3_1 ++ (⟨#[32]⟩ : ByteArray)) ++ t333) ++ (⟨#[43]⟩ : ByteArray)).size + t335.size ≤ 9223372036854775807 then (spec_PuzzleText.l0 k1 ((((x3_1 ++ (⟨#[32]⟩ : ByteArray)) ++ t333) ++ (⟨#[43]⟩ : ByteArray)) ++ t335) (wrap64 (x4_1 + 1)) l0_0 l0_1) else (none))) else (none)) else (none)) = some r := H
   have A25 := aM A250
   clear A250
   by_cases c26 : (x3_1 ++ (⟨#[32]⟩ : ByteArray)).size + t333.size ≤ 9223372036854775807
   rotate_left
   ·rw [if_neg c26] at H
    exact absurd H (by simp)
   rw [if_pos c26] at H
   have c26b0 := eq_true c26
   have c26b1 : decide ((x3_1 ++ (⟨#[32]⟩ : ByteArray)).size + t333.size ≤ 9223372036854775807) = true := decide_eq_true c26
   try have c26b2 : (9223372036854775807 < (x3_1 ++ (⟨#[32]⟩ : ByteArray)).size + t333.size) = False := eq_false (Nat.not_lt.2 c26)
   try have c26b3 := c26b2
   try simp only [ByteArray.size_append, show (⟨#[32]⟩ : ByteArray).size = 1 from rfl, show (⟨#[42]⟩ : ByteArray).size = 1 from rfl, show (⟨#[43]⟩ : ByteArray).size = 1 from rfl] at c26b3
   by_cases c27 : ((x3_1 ++ (⟨#[32]⟩ : ByteArray)) ++ t333).size + 1 ≤ 9223372036854775807
   rotate_left
   ·rw [if_neg c27] at H
    exact absurd H (by simp)
   rw [if_pos c27] at H
   have c27b0 := eq_true c27
   have c27b1 : decide (((x3_1 ++ (⟨#[32]⟩ : ByteArray)) ++ t333).size + 1 ≤ 9223372036854775807) = true := decide_eq_true c27
   try have c27b2 : (9223372036854775807 < ((x3_1 ++ (⟨#[32]⟩ : ByteArray)) ++ t333).size + 1) = False := eq_false (Nat.not_lt.2 c27)
   try have c27b3 := c27b2
   try simp only [ByteArray.size_append, show (⟨#[32]⟩ : ByteArray).size = 1 from rfl, show (⟨#[42]⟩ : ByteArray).size = 1 from rfl, show (⟨#[43]⟩ : ByteArray).size = 1 from rfl] at c27b3
   replace H := Option.bind_eq_some_iff.mp H
   obtain ⟨t335, A280, H⟩ := H
   replace H : (if (((x3_1 ++ (⟨#[32]⟩ : ByteArray)) ++ t333) ++ (⟨#[43]⟩ : ByteArray)).size + t335.size ≤ 9223372036854775807 then (spec_PuzzleText.l0 k1 ((((x3_1 ++ (⟨#[32]⟩ : ByteArray)) ++ t333) ++ (⟨#[43]⟩ : ByteArray)) ++ t335) (wrap64 (x4_1 + 1)) l0_0 l0_1) else (none)) = some r := H
   have A28 := aM A280
   clear A280
   by_cases c29 : (((x3_1 ++ (⟨#[32]⟩ : ByteArray)) ++ t333) ++ (⟨#[43]⟩ : ByteArray)).size + t335.size ≤ 9223372036854775807
   rotate_left
   ·rw [if_neg c29] at H
    exact absurd H (by simp)
   rw [if_pos c29] at H
   have c29b0 := eq_true c29
   have c29b1 : decide ((((x3_1 ++ (⟨#[32]⟩ : ByteArray)) ++ t333) ++ (⟨#[43]⟩ : ByteArray)).size + t335.size ≤ 9223372036854775807) = true := decide_eq_true c29
   try have c29b2 : (9223372036854775807 < (((x3_1 ++ (⟨#[32]⟩ : ByteArray)) ++ t333) ++ (⟨#[43]⟩ : ByteArray)).size + t335.size) = False := eq_false (Nat.not_lt.2 c29)
   try have c29b3 := c29b2
   try simp only [ByteArray.size_append, show (⟨#[32]⟩ : ByteArray).size = 1 from rfl, show (⟨#[42]⟩ : ByteArray).size = 1 from rfl, show (⟨#[43]⟩ : ByteArray).size = 1 from rfl] at c29b3
   have H' := aM H
   clear H
   obtain ⟨hcz30_0, hcz30_1, hfz30_0, hfz30_1⟩ := zQ2 BK324.out
   have p327 : 0 ≤ (x4_1 : Int) := of_decide_eq_true za
   have q327 : x4_1 < (l0_1.length : Int) := of_decide_eq_true za
   obtain ⟨ad327, A327_0, c327_0, e327, hx327_0, hx327_1, hx327_2, hl327_0, hi327_0⟩ := at_T50 HR0_1.out x4_1 p327 q327
   (try rw [← Nbq12.out] at hx327_2); (try rw [← Nbq12.out] at hw327_2)
   cases e327
   replace hx327_0 := zk HB.out hx327_0
   replace hx327_1 := zk HB.out hx327_1
   replace hx327_2 := zk HB.out hx327_2
   have HR327_0 := aM hi327_0
   have HC327_0 := aM hl327_0
   clear hi327_0 hl327_0
   replace p327 := eq_true p327
   replace q327 := eq_true q327
   try go_wp2
   have _ := aM (blk_drew BK324.out)
   have _ := aM (below_drew1 HB.out)
   clear BK324
   clear HB
   rename_i BK324 HB
   have p332 : 0 ≤ (x4_1 : Int) := of_decide_eq_true za
   have q332 : x4_1 < (l0_1.length : Int) := of_decide_eq_true za
   obtain ⟨ad332, A332_0, c332_0, e332, hx332_0, hx332_1, hx332_2, hl332_0, hi332_0⟩ := at_T50 HR0_1.out x4_1 p332 q332
   have hw332_2 := hx332_2
   have hw332_1 := hx332_1
   have hw332_0 := hx332_0
   (try rw [← Nbq12.out] at hx332_2); (try rw [← Nbq12.out] at hw332_2)
   obtain rfl : ad327 = ad332 := (by injection e332)
   replace hx332_0 := zk HB.out hx332_0
   replace hx332_1 := zk HB.out hx332_1
   replace hx332_2 := zk HB.out hx332_2
   have HR332_0 := aM hi332_0
   have HC332_0 := aM hl332_0
   clear hi332_0 hl332_0
   replace p332 := eq_true p332
   replace q332 := eq_true q332
   have p334 : 0 ≤ (x4_1 : Int) := of_decide_eq_true za
   have q334 : x4_1 < (l0_1.length : Int) := of_decide_eq_true za
   obtain ⟨ad334, A334_0, c334_0, e334, hx334_0, hx334_1, hx334_2, hl334_0, hi334_0⟩ := at_T50 HR0_1.out x4_1 p334 q334
   have hw334_2 := hx334_2
   have hw334_1 := hx334_1
   have hw334_0 := hx334_0
   (try rw [← Nbq12.out] at hx334_2); (try rw [← Nbq12.out] at hw334_2)
   obtain rfl : ad327 = ad334 := (by injection e334)
   replace hx334_0 := zk HB.out hx334_0
   replace hx334_1 := zk HB.out hx334_1
   replace hx334_2 := zk HB.out hx334_2
   have HR334_0 := aM hi334_0
   have HC334_0 := aM hl334_0
   clear hi334_0 hl334_0
   replace p334 := eq_true p334
   replace q334 := eq_true q334
   have ea_ := Option.some.inj (hx332_0.symm.trans hx334_0)
   injection ea_ with ea_ en_ ec_
   subst ea_
   subst ec_
   clear en_
   refine start_ (n := 21) (S := fun w' => w'.cell? ⟨gb324, 0, none⟩ = some (.slice A0_0 l0_0.length c0_0) ∧ w'.cell? ⟨gb324, 1, none⟩ = some (.slice (some ad327) l0_1.length c0_1) ∧ w'.cell? (ad327.add ((x4_1).toNat * 3)) = some (.slice A332_0 ((rd_T50 l0_1 x4_1).f0).length c332_0) ∧ w'.cell? ⟨(ad327.add ((x4_1).toNat * 3)).block, (ad327.add ((x4_1).toNat * 3)).off + 1, none⟩ = some (.int .i64 ((rd_T50 l0_1 x4_1).f1)) ∧ w'.cell? ⟨(ad327.add ((x4_1).toNat * 3)).block, (ad327.add ((x4_1).toNat * 3)).off + 2, none⟩ = some (.bool (false)) ∧ w'.cell? (ad327.add ((x4_1).toNat * 3)) = some (.slice A332_0 ((rd_T50 l0_1 x4_1).f0).length c332_0) ∧ w'.cell? ⟨(ad327.add ((x4_1).toNat * 3)).block, (ad327.add ((x4_1).toNat * 3)).off + 1, none⟩ = some (.int .i64 ((rd_T50 l0_1 x4_1).f1)) ∧ w'.cell? ⟨(ad327.add ((x4_1).toNat * 3)).block, (ad327.add ((x4_1).toNat * 3)).off + 2, none⟩ = some (.bool (false))) (ds := []) zA86 (by kernel_rfl) rfl rfl ⟨(blk_cell BK324.out 0).trans rfl, (blk_cell BK324.out 1).trans rfl, (zk HB.out hw332_0), (zk HB.out hw332_1), (zk HB.out hw332_2), (zk HB.out hw334_0), (zk HB.out hw334_1), (zk HB.out hw334_2)⟩ (fun hHeld => ?_); refine with_tabW spec_PuzzleText.tab10 spec_PuzzleText.bits10 (fun HT_ HW_ => ?_)
   generalize wr.drew = w31 at BK324 HB HR332_0 HR334_0 hx332_0 hx332_1 hx332_2 hx334_0 hx334_1 hx334_2 hHeld ⊢
   refine zP 0 (some 25) zA87 ?_
   refine zP 1 (some 26) zA88 ?_
   refine zP 2 (some 27) zA89 ?_
   refine zP 4 (some 29) zA90 ?_
   refine zP 10 (some 35) zA91 ?_
   refine zP 12 (some 37) zA92 ?_
   refine zP 14 (some 39) zA93 ?_
   refine zU8 3 (some 28) zA94 hHeld ?_
   refine zP 5 (some 30) zA95 ?_
   refine zP 6 (some 31) zA96 ?_
   refine zU8 7 (some 32) zA97 hHeld ?_
   refine zU8 13 (some 38) zA98 hHeld ?_
   refine zP 15 (some 40) zA99 ?_
   refine zP 16 (some 41) zA100 ?_
   refine zU8 17 (some 42) zA101 hHeld ?_
   refine one_ (i := 8) (N := some 33) zA102 rfl rfl (one_of HT_.out (by kernel_rfl)) (by decide) (fun K hK => ?_)
   refine goes_ Tryz.func27 (by kernel_rfl) rfl #[.int .i64 ((rd_T50 l0_1 x4_1).f1)] (by rfl) rfl rfl zm ?_
   with_reducible refine (spec_l01Dec.calls k1 ((rd_T50 l0_1 x4_1).f1) t333 _ A25.out).mono ?_
   rintro e w32 ⟨rfl, hb⟩
   refine ⟨_, rfl, ?_⟩
   have _ := aM (blk_below (g := gb324) (o := .cells #[.slice A0_0 l0_0.length c0_0, .slice (some ad327) l0_1.length c0_1] 31 (0, 0)) (mB_ BK324.out) hb)
   have _ := aM (below_step (zs GE324.out) hb)
   clear BK324
   clear HB
   rename_i BK324 HB
   (try clear hb)
   (try clear hb2)
   (try clear hk)
   (try clear hi)
   refine hK.out _ _ ⟨(blk_cell BK324.out 0).trans rfl, (blk_cell BK324.out 1).trans rfl, (zk HB.out hw332_0), (zk HB.out hw332_1), (zk HB.out hw332_2), (zk HB.out hw334_0), (zk HB.out hw334_1), (zk HB.out hw334_2)⟩ (fun hHeld => ?_)
   clear hK K
   refine norm_ (a' := ?_) ?_ ?_
   rotate_left
   ·show Act.put _ (some 33) _ = _
    simp only [Act.put, xA, xB, xC, i64_w, i32_w]
    rfl
   refine zP 9 (some 34) zA103 ?_
   refine zP 11 (some 36) zA104 ?_
   refine one_ (i := 18) (N := some 43) zA105 rfl rfl (one_of HT_.out (by kernel_rfl)) (by decide) (fun K hK => ?_)
   refine goes_ Tryz.func26 (by kernel_rfl) rfl #[.slice A332_0 ((rd_T50 l0_1 x4_1).f0).length c332_0] (by rfl) rfl rfl zm ?_
   with_reducible refine (spec_l04Text.calls k1 _ _ ((rd_T50 l0_1 x4_1).f0) t335 _ ?side1 ?side2 A28.out).mono ?_
   (case side1 => repeat (first | exact (Kd.C_below HR334_0.out HB.out) | (with_reducible refine Kd.C_alloc ?_ _) | (with_reducible refine Kd.C_drewN ?_ _) | (with_reducible refine Kd.C_drew ?_)))
   (case side2 => exact HC334_0.out)
   rintro e w33 ⟨rfl, hb⟩
   refine ⟨_, rfl, ?_⟩
   have _ := aM (blk_below (g := gb324) (o := .cells #[.slice A0_0 l0_0.length c0_0, .slice (some ad327) l0_1.length c0_1] 31 (0, 0)) (mB_ BK324.out) hb)
   have _ := aM (below_step (zs GE324.out) hb)
   clear BK324
   clear HB
   rename_i BK324 HB
   (try clear hb)
   (try clear hb2)
   (try clear hk)
   (try clear hi)
   refine hK.out _ _ ⟨(blk_cell BK324.out 0).trans rfl, (blk_cell BK324.out 1).trans rfl, (zk HB.out hw332_0), (zk HB.out hw332_1), (zk HB.out hw332_2), (zk HB.out hw334_0), (zk HB.out hw334_1), (zk HB.out hw334_2)⟩ (fun hHeld => ?_)
   clear hK K
   refine norm_ (a' := ?_) ?_ ?_
   rotate_left
   ·show Act.put _ (some 43) _ = _
    simp only [Act.put, xA, xB, xC, i64_w, i32_w]
    rfl
   refine zP 19 (some 44) zA106 ?_
   refine zP 20 (some 3) zA107 ?_
   refine done_ (done_of HT_.out (by kernel_rfl)) ?_
   try go_wp2
   go_roundg k1
   case measure => have := HK1.out; omega
   case rel => exact ⟨((((x3_1 ++ (⟨#[32]⟩ : ByteArray)) ++ t333) ++ (⟨#[43]⟩ : ByteArray)) ++ t335), (wrap64 (x4_1 + 1)), zr, zr, H', ⟨by have := HK1.out; omega⟩, ⟨mB_ BK324.out⟩, ⟨zs GE324.out⟩⟩
def impl_within.f (a0 : Int) (a1 : Int) (a2 : Int) : Option (Bool) := if a0 ≥ a1 then (some (decide (a0 ≤ a2))) else (some false)
theorem impl_within.calls (a0 : Int) (a1 : Int) (a2 : Int) (r : Bool) (w : World) (h : impl_within.f a0 a1 a2 = some r) :
  Calls Tryz.prog 77 #[.int .i64 a0, .int .i64 a1, .int .i64 a2] w fun e w' => e = .returned (.bool r) ∧ Drawn0 w w' := by
 have H : (if a0 ≥ a1 then (some (decide (a0 ≤ a2))) else (some false)) = some r := h
 clear h
 by_cases c4 : a0 ≥ a1
 ·rw [if_pos c4] at H
  have c4b0 : decide (a1 ≤ a0) = true := decide_eq_true c4
  clear c4
  obtain rfl := Option.some.inj H
  go_enter Tryz.func77, Tryz.ntmps77
  go_wp2
  go_ret
  exact ⟨by first | rfl | (simp; done) | (simp [*]; done), by repeat (first | exact Drawn0.refl _ | apply Drawn0.step)⟩
 rw [if_neg c4] at H
 have c4b0 : decide (a1 ≤ a0) = false := decide_eq_false c4
 clear c4
 obtain rfl := Option.some.inj H
 go_enter Tryz.func77, Tryz.ntmps77
 go_wp2
 go_ret
 exact ⟨by first | rfl | (simp; done) | (simp [*]; done), by repeat (first | exact Drawn0.refl _ | apply Drawn0.step)⟩
def impl_isCoordinate.f (a0 : Int) : Option (Bool) := (impl_within.f a0 (-100) 100).bind fun t371 => (some t371)
theorem impl_isCoordinate.calls (a0 : Int) (r : Bool) (w : World) (h : impl_isCoordinate.f a0 = some r) :
  Calls Tryz.prog 97 #[.int .i64 a0] w fun e w' => e = .returned (.bool r) ∧ Drawn0 w w' := by
 have H : ((impl_within.f a0 (-100) 100).bind fun t371 => (some t371)) = some r := h
 clear h
 replace H := Option.bind_eq_some_iff.mp H
 obtain ⟨t371, A20, H⟩ := H
 replace H : (some t371) = some r := H
 have A2 := aM A20
 clear A20
 obtain rfl := Option.some.inj H
 go_enter Tryz.func97, Tryz.ntmps97
 go_wp2_with (first | ((with_reducible refine gate_callee (f := 77) rfl ?_); refine goesL_ (some 4) rfl rfl Tryz.func77 (by kernel_rfl) rfl #[.int .i64 a0, .int .i64 (-100), .int .i64 100] rfl zm ?_; (with_reducible refine (impl_within.calls a0 (-100) 100 t371 _ A2.out).mono ?_); rintro e w' ⟨rfl, ⟨nd, rfl⟩⟩; refine ⟨_, rfl, ?_⟩))
 go_ret
 exact ⟨by first | rfl | (simp; done) | (simp [*]; done), by repeat (first | exact Drawn0.refl _ | apply Drawn0.step)⟩
def cmp_isNaN_int64.f (a0 : Int) : Option (Bool) := some (a0 != a0)
theorem cmp_isNaN_int64.calls (a0 : Int) (r : Bool) (w : World) (h : cmp_isNaN_int64.f a0 = some r) :
  Calls Tryz.prog 162 #[.int .i64 a0] w fun e w' => e = .returned (.bool r) ∧ Drawn0 w w' := by
 have H : (some (a0 != a0)) = some r := h
 clear h
 obtain rfl := Option.some.inj H
 go_enter Tryz.func162, Tryz.ntmps162
 go_wp2
 go_ret
 exact ⟨by first | rfl | (simp; done) | (simp [*]; done), by repeat (first | exact Drawn0.refl _ | apply Drawn0.step)⟩
def cmp_Compare_int64.f (a0 : Int) (a1 : Int) : Option (Int) := (cmp_isNaN_int64.f a0).bind fun t372 => ((cmp_isNaN_int64.f a1).bind fun t373 => (if t372 = true then (if t373 = true then (some 0) else (some (-1))) else (if t373 = true then (some 1) else (if a0 < a1 then (some (-1)) else (if a0 > a1 then (some 1) else (some 0))))))
theorem cmp_Compare_int64.calls (a0 : Int) (a1 : Int) (r : Int) (w : World) (h : cmp_Compare_int64.f a0 a1 = some r) :
  Calls Tryz.prog 133 #[.int .i64 a0, .int .i64 a1] w fun e w' => e = .returned (.int .i64 r) ∧ Drawn0 w w' := by
 have H : ((cmp_isNaN_int64.f a0).bind fun t372 => ((cmp_isNaN_int64.f a1).bind fun t373 => (if t372 = true then (if t373 = true then (some 0) else (some (-1))) else (if t373 = true then (some 1) else (if a0 < a1 then (some (-1)) else (if a0 > a1 then (some 1) else (some 0))))))) = some r := h
 clear h
 replace H := Option.bind_eq_some_iff.mp H
 obtain ⟨t372, A30, H⟩ := H
 replace H : ((cmp_isNaN_int64.f a1).bind fun t373 => (if t372 = true then (if t373 = true then (some 0) else (some (-1))) else (if t373 = true then (some 1) else (if a0 < a1 then (some (-1)) else (if a0 > a1 then (some 1) else (some 0)))))) = some r := H
 have A3 := aM A30
 clear A30
 replace H := Option.bind_eq_some_iff.mp H
 obtain ⟨t373, A40, H⟩ := H
 replace H : (if t372 = true then (if t373 = true then (some 0) else (some (-1))) else (if t373 = true then (some 1) else (if a0 < a1 then (some (-1)) else (if a0 > a1 then (some 1) else (some 0))))) = some r := H
 have A4 := aM A40
 clear A40
 by_cases c5 : t372 = true
 ·subst c5
  have H1 : (if t373 = true then (some 0) else (some (-1))) = some r := by rw [if_pos rfl] at H; exact H
  clear H
  have H := H1
  clear H1
  by_cases c6 : t373 = true
  ·subst c6
   have H1 : (some 0) = some r := by rw [if_pos rfl] at H; exact H
   clear H
   have H := H1
   clear H1
   obtain rfl := Option.some.inj H
   go_enter Tryz.func133, Tryz.ntmps133
   go_wp2_with (first | ((with_reducible refine gate_callee (f := 162) rfl ?_); refine goesL_ (some 8) rfl rfl Tryz.func162 (by kernel_rfl) rfl #[.int .i64 a0] rfl zm ?_; (with_reducible refine (cmp_isNaN_int64.calls a0 true _ A3.out).mono ?_); rintro e w' ⟨rfl, ⟨nd, rfl⟩⟩; refine ⟨_, rfl, ?_⟩) | ((with_reducible refine gate_callee (f := 162) rfl ?_); refine goesL_ (some 10) rfl rfl Tryz.func162 (by kernel_rfl) rfl #[.int .i64 a1] rfl zm ?_; (with_reducible refine (cmp_isNaN_int64.calls a1 true _ A4.out).mono ?_); rintro e w' ⟨rfl, ⟨nd, rfl⟩⟩; refine ⟨_, rfl, ?_⟩))
   go_ret
   exact ⟨by first | rfl | (simp; done) | (simp [*]; done), by repeat (first | exact Drawn0.refl _ | apply Drawn0.step)⟩
  replace c6 := Bool.eq_false_iff.mpr c6
  subst c6
  have H1 : (some (-1)) = some r := by rw [if_neg (show ¬ (false = true) by decide)] at H; exact H
  clear H
  have H := H1
  clear H1
  obtain rfl := Option.some.inj H
  go_enter Tryz.func133, Tryz.ntmps133
  go_wp2_with (first | ((with_reducible refine gate_callee (f := 162) rfl ?_); refine goesL_ (some 8) rfl rfl Tryz.func162 (by kernel_rfl) rfl #[.int .i64 a0] rfl zm ?_; (with_reducible refine (cmp_isNaN_int64.calls a0 true _ A3.out).mono ?_); rintro e w' ⟨rfl, ⟨nd, rfl⟩⟩; refine ⟨_, rfl, ?_⟩) | ((with_reducible refine gate_callee (f := 162) rfl ?_); refine goesL_ (some 10) rfl rfl Tryz.func162 (by kernel_rfl) rfl #[.int .i64 a1] rfl zm ?_; (with_reducible refine (cmp_isNaN_int64.calls a1 false _ A4.out).mono ?_); rintro e w' ⟨rfl, ⟨nd, rfl⟩⟩; refine ⟨_, rfl, ?_⟩))
  go_ret
  exact ⟨by first | rfl | (simp; done) | (simp [*]; done), by repeat (first | exact Drawn0.refl _ | apply Drawn0.step)⟩
 replace c5 := Bool.eq_false_iff.mpr c5
 subst c5
 have H1 : (if t373 = true then (some 1) else (if a0 < a1 then (some (-1)) else (if a0 > a1 then (some 1) else (some 0)))) = some r := by rw [if_neg (show ¬ (false = true) by decide)] at H; exact H
 clear H
 have H := H1
 clear H1
 by_cases c7 : t373 = true
 ·subst c7
  have H1 : (some 1) = some r := by rw [if_pos rfl] at H; exact H
  clear H
  have H := H1
  clear H1
  obtain rfl := Option.some.inj H
  go_enter Tryz.func133, Tryz.ntmps133
  go_wp2_with (first | ((with_reducible refine gate_callee (f := 162) rfl ?_); refine goesL_ (some 8) rfl rfl Tryz.func162 (by kernel_rfl) rfl #[.int .i64 a0] rfl zm ?_; (with_reducible refine (cmp_isNaN_int64.calls a0 false _ A3.out).mono ?_); rintro e w' ⟨rfl, ⟨nd, rfl⟩⟩; refine ⟨_, rfl, ?_⟩) | ((with_reducible refine gate_callee (f := 162) rfl ?_); refine goesL_ (some 10) rfl rfl Tryz.func162 (by kernel_rfl) rfl #[.int .i64 a1] rfl zm ?_; (with_reducible refine (cmp_isNaN_int64.calls a1 true _ A4.out).mono ?_); rintro e w' ⟨rfl, ⟨nd, rfl⟩⟩; refine ⟨_, rfl, ?_⟩))
  go_ret
  exact ⟨by first | rfl | (simp; done) | (simp [*]; done), by repeat (first | exact Drawn0.refl _ | apply Drawn0.step)⟩
 replace c7 := Bool.eq_false_iff.mpr c7
 subst c7
 have H1 : (if a0 < a1 then (some (-1)) else (if a0 > a1 then (some 1) else (some 0))) = some r := by rw [if_neg (show ¬ (false = true) by decide)] at H; exact H
 clear H
 have H := H1
 clear H1
 by_cases c8 : a0 < a1
 ·rw [if_pos c8] at H
  have c8b0 : decide (a0 < a1) = true := decide_eq_true c8
  clear c8
  obtain rfl := Option.some.inj H
  go_enter Tryz.func133, Tryz.ntmps133
  go_wp2_with (first | ((with_reducible refine gate_callee (f := 162) rfl ?_); refine goesL_ (some 8) rfl rfl Tryz.func162 (by kernel_rfl) rfl #[.int .i64 a0] rfl zm ?_; (with_reducible refine (cmp_isNaN_int64.calls a0 false _ A3.out).mono ?_); rintro e w' ⟨rfl, ⟨nd, rfl⟩⟩; refine ⟨_, rfl, ?_⟩) | ((with_reducible refine gate_callee (f := 162) rfl ?_); refine goesL_ (some 10) rfl rfl Tryz.func162 (by kernel_rfl) rfl #[.int .i64 a1] rfl zm ?_; (with_reducible refine (cmp_isNaN_int64.calls a1 false _ A4.out).mono ?_); rintro e w' ⟨rfl, ⟨nd, rfl⟩⟩; refine ⟨_, rfl, ?_⟩))
  go_ret
  exact ⟨by first | rfl | (simp; done) | (simp [*]; done), by repeat (first | exact Drawn0.refl _ | apply Drawn0.step)⟩
 rw [if_neg c8] at H
 have c8b0 : decide (a0 < a1) = false := decide_eq_false c8
 clear c8
 by_cases c9 : a0 > a1
 ·rw [if_pos c9] at H
  have c9b0 : decide (a1 < a0) = true := decide_eq_true c9
  clear c9
  obtain rfl := Option.some.inj H
  go_enter Tryz.func133, Tryz.ntmps133
  go_wp2_with (first | ((with_reducible refine gate_callee (f := 162) rfl ?_); refine goesL_ (some 8) rfl rfl Tryz.func162 (by kernel_rfl) rfl #[.int .i64 a0] rfl zm ?_; (with_reducible refine (cmp_isNaN_int64.calls a0 false _ A3.out).mono ?_); rintro e w' ⟨rfl, ⟨nd, rfl⟩⟩; refine ⟨_, rfl, ?_⟩) | ((with_reducible refine gate_callee (f := 162) rfl ?_); refine goesL_ (some 10) rfl rfl Tryz.func162 (by kernel_rfl) rfl #[.int .i64 a1] rfl zm ?_; (with_reducible refine (cmp_isNaN_int64.calls a1 false _ A4.out).mono ?_); rintro e w' ⟨rfl, ⟨nd, rfl⟩⟩; refine ⟨_, rfl, ?_⟩))
  go_ret
  exact ⟨by first | rfl | (simp; done) | (simp [*]; done), by repeat (first | exact Drawn0.refl _ | apply Drawn0.step)⟩
 rw [if_neg c9] at H
 have c9b0 : decide (a1 < a0) = false := decide_eq_false c9
 clear c9
 obtain rfl := Option.some.inj H
 go_enter Tryz.func133, Tryz.ntmps133
 go_wp2_with (first | ((with_reducible refine gate_callee (f := 162) rfl ?_); refine goesL_ (some 8) rfl rfl Tryz.func162 (by kernel_rfl) rfl #[.int .i64 a0] rfl zm ?_; (with_reducible refine (cmp_isNaN_int64.calls a0 false _ A3.out).mono ?_); rintro e w' ⟨rfl, ⟨nd, rfl⟩⟩; refine ⟨_, rfl, ?_⟩) | ((with_reducible refine gate_callee (f := 162) rfl ?_); refine goesL_ (some 10) rfl rfl Tryz.func162 (by kernel_rfl) rfl #[.int .i64 a1] rfl zm ?_; (with_reducible refine (cmp_isNaN_int64.calls a1 false _ A4.out).mono ?_); rintro e w' ⟨rfl, ⟨nd, rfl⟩⟩; refine ⟨_, rfl, ?_⟩))
 go_ret
 exact ⟨by first | rfl | (simp; done) | (simp [*]; done), by repeat (first | exact Drawn0.refl _ | apply Drawn0.step)⟩
def impl_compareCells.f (a0_0 : Int) (a0_1 : Int) (a1_0 : Int) (a1_1 : Int) : Option (Int) := (cmp_Compare_int64.f a0_1 a1_1).bind fun t376 => (if t376 = 0 then ((cmp_Compare_int64.f a0_0 a1_0).bind fun t377 => (some t377)) else (some t376))
theorem impl_compareCells.calls (a0_0 : Int) (a0_1 : Int) (a1_0 : Int) (a1_1 : Int) (r : Int) (w : World) (h : impl_compareCells.f a0_0 a0_1 a1_0 a1_1 = some r) :
  Calls Tryz.prog 98 #[.agg #[.int .i64 a0_0, .int .i64 a0_1], .agg #[.int .i64 a1_0, .int .i64 a1_1]] w fun e w' => e = .returned (.int .i64 r) ∧ Below w.heap.size w w' := by
 have hu82 := Tryz.underlying82
 have HB := aM (Below.refl w.heap.size w)
 have H : ((cmp_Compare_int64.f a0_1 a1_1).bind fun t376 => (if t376 = 0 then ((cmp_Compare_int64.f a0_0 a1_0).bind fun t377 => (some t377)) else (some t376))) = some r := h
 clear h
 replace H := Option.bind_eq_some_iff.mp H
 obtain ⟨t376, A30, H⟩ := H
 replace H : (if t376 = 0 then ((cmp_Compare_int64.f a0_0 a1_0).bind fun t377 => (some t377)) else (some t376)) = some r := H
 have A3 := aM A30
 clear A30
 by_cases c4 : t376 = 0
 rotate_left
 ·rw [if_neg c4] at H
  have c4b0 : (t376 == 0) = false := beq_eq_false_iff_ne.mpr c4
  have c4b1 : (t376 != 0) = true := bne_iff_ne.mpr c4
  obtain rfl := Option.some.inj H
  go_enter Tryz.func98, Tryz.ntmps98
  go_wp2_with (first | ((with_reducible refine gate_dst (N := 2) rfl ?_); refine zx 2 #[.int .i64 a0_0, .int .i64 a0_1] 82 ?_; intro gb374 hg w11 hbox hb; have _ := aM (below_step zb hb); have _ := aM (hbox); have _ := aM ((ze : w.heap.size ≤ gb374)); have _ := aM ((ze : w.heap.size ≤ gb374)); clear HB; rename_i HB BK374 GW374 GE374; clear hb hbox hg) | ((with_reducible refine gate_dst (N := 3) rfl ?_); refine zx 3 #[.int .i64 a1_0, .int .i64 a1_1] 82 ?_; intro gb375 hg w12 hbox hb; have _ := aM (blk_below (g := gb374) (o := .cells #[.int .i64 a0_0, .int .i64 a0_1] 82 (0, 0)) (mB_ BK374.out) hb); have _ := aM (below_step (zs GE374.out) hb); have _ := aM (hbox); have _ := aM ((zf GE374.out : w.heap.size ≤ gb375)); have _ := aM ((zf GE374.out : w.heap.size ≤ gb375)); have _ := aM ((zl BK374.out : gb374 ≠ gb375)); have _ := aM ((zn BK374.out : gb375 ≠ gb374)); clear BK374 HB; rename_i BK374 HB BK375 GW375 GE375 NB374_375 NB375_374; clear hb hbox hg; have hnb13 := NB374_375.out; have hnc13 := NB375_374.out; obtain ⟨hcz14_0, hcz14_1, hfz14_0, hfz14_1⟩ := zQ2 BK374.out; obtain ⟨hcz15_0, hcz15_1, hfz15_0, hfz15_1⟩ := zQ2 BK375.out) | ((with_reducible refine gate_callee (f := 133) rfl ?_); refine goesL_ (some 10) rfl rfl Tryz.func133 (by kernel_rfl) rfl #[.int .i64 a0_1, .int .i64 a1_1] rfl zm ?_; (with_reducible refine (cmp_Compare_int64.calls a0_1 a1_1 t376 _ A3.out).mono ?_); rintro e w' ⟨rfl, ⟨nd, rfl⟩⟩; refine ⟨_, rfl, ?_⟩))
  go_ret
  exact ⟨zw, zt GE374.out GE375.out⟩
 rw [if_pos c4] at H
 have c4b0 : (t376 == 0) = true := beq_iff_eq.mpr c4
 have c4b1 : (t376 != 0) = false := bne_eq_false_iff_eq.mpr c4
 clear c4
 replace H := Option.bind_eq_some_iff.mp H
 obtain ⟨t377, A50, H⟩ := H
 replace H : (some t377) = some r := H
 have A5 := aM A50
 clear A50
 obtain rfl := Option.some.inj H
 go_enter Tryz.func98, Tryz.ntmps98
 go_wp2_with (first | ((with_reducible refine gate_dst (N := 2) rfl ?_); refine zx 2 #[.int .i64 a0_0, .int .i64 a0_1] 82 ?_; intro gb374 hg w6 hbox hb; have _ := aM (below_step zb hb); have _ := aM (hbox); have _ := aM ((ze : w.heap.size ≤ gb374)); have _ := aM ((ze : w.heap.size ≤ gb374)); clear HB; rename_i HB BK374 GW374 GE374; clear hb hbox hg) | ((with_reducible refine gate_dst (N := 3) rfl ?_); refine zx 3 #[.int .i64 a1_0, .int .i64 a1_1] 82 ?_; intro gb375 hg w7 hbox hb; have _ := aM (blk_below (g := gb374) (o := .cells #[.int .i64 a0_0, .int .i64 a0_1] 82 (0, 0)) (mB_ BK374.out) hb); have _ := aM (below_step (zs GE374.out) hb); have _ := aM (hbox); have _ := aM ((zf GE374.out : w.heap.size ≤ gb375)); have _ := aM ((zf GE374.out : w.heap.size ≤ gb375)); have _ := aM ((zl BK374.out : gb374 ≠ gb375)); have _ := aM ((zn BK374.out : gb375 ≠ gb374)); clear BK374 HB; rename_i BK374 HB BK375 GW375 GE375 NB374_375 NB375_374; clear hb hbox hg; have hnb8 := NB374_375.out; have hnc8 := NB375_374.out; obtain ⟨hcz9_0, hcz9_1, hfz9_0, hfz9_1⟩ := zQ2 BK374.out; obtain ⟨hcz10_0, hcz10_1, hfz10_0, hfz10_1⟩ := zQ2 BK375.out) | ((with_reducible refine gate_callee (f := 133) rfl ?_); refine goesL_ (some 10) rfl rfl Tryz.func133 (by kernel_rfl) rfl #[.int .i64 a0_1, .int .i64 a1_1] rfl zm ?_; (with_reducible refine (cmp_Compare_int64.calls a0_1 a1_1 t376 _ A3.out).mono ?_); rintro e w' ⟨rfl, ⟨nd, rfl⟩⟩; refine ⟨_, rfl, ?_⟩) | ((with_reducible refine gate_callee (f := 133) rfl ?_); refine goesL_ (some 18) rfl rfl Tryz.func133 (by kernel_rfl) rfl #[.int .i64 a0_0, .int .i64 a1_0] rfl zm ?_; (with_reducible refine (cmp_Compare_int64.calls a0_0 a1_0 t377 _ A5.out).mono ?_); rintro e w' ⟨rfl, ⟨nd, rfl⟩⟩; refine ⟨_, rfl, ?_⟩))
 go_ret
 exact ⟨zw, zt GE374.out GE375.out⟩
theorem impl_compareCells.callsG (a0_0 : Int) (a0_1 : Int) (a1_0 : Int) (a1_1 : Int) (r : Int) (w : World) (h : impl_compareCells.f a0_0 a0_1 a1_0 a1_1 = some r) :
  Calls Tryz.prog 98 #[.agg #[.int .i64 a0_0, .int .i64 a0_1], .agg #[.int .i64 a1_0, .int .i64 a1_1]] w fun e w' => e = .returned (.int .i64 r) ∧ BelG w.heap.size w w' := by
 have hu82 := Tryz.underlying82
 have HB := aM (BelG.refl w.heap.size w)
 have H : ((cmp_Compare_int64.f a0_1 a1_1).bind fun t376 => (if t376 = 0 then ((cmp_Compare_int64.f a0_0 a1_0).bind fun t377 => (some t377)) else (some t376))) = some r := h
 clear h
 replace H := Option.bind_eq_some_iff.mp H
 obtain ⟨t376, A30, H⟩ := H
 replace H : (if t376 = 0 then ((cmp_Compare_int64.f a0_0 a1_0).bind fun t377 => (some t377)) else (some t376)) = some r := H
 have A3 := aM A30
 clear A30
 by_cases c4 : t376 = 0
 rotate_left
 ·rw [if_neg c4] at H
  have c4b0 : (t376 == 0) = false := beq_eq_false_iff_ne.mpr c4
  have c4b1 : (t376 != 0) = true := bne_iff_ne.mpr c4
  obtain rfl := Option.some.inj H
  go_enter Tryz.func98, Tryz.ntmps98
  go_wp2_with (first | ((with_reducible refine gate_dst (N := 2) rfl ?_); refine box_eventD ?hg (N := 2) ?hd (cs := #[.int .i64 a0_0, .int .i64 a0_1]) (t := 82) ?hr ?_; (case hd => rfl); (case hg => rfl); (case hr => first | (go_simp; done) | (go_simp; rfl)); intro gb374 hg w11 hbox hb; have _ := aM (belG_step zg hb); have _ := aM (hbox); have _ := aM ((zi : w.heap.size ≤ gb374)); have _ := aM ((zi : w.heap.size ≤ gb374)); clear HB; rename_i HB BK374 GW374 GE374; clear hb hbox hg) | ((with_reducible refine gate_dst (N := 3) rfl ?_); refine box_eventD ?hg (N := 3) ?hd (cs := #[.int .i64 a1_0, .int .i64 a1_1]) (t := 82) ?hr ?_; (case hd => rfl); (case hg => rfl); (case hr => first | (go_simp; done) | (go_simp; rfl)); intro gb375 hg w12 hbox hb; have _ := aM (blk_belG (g := gb374) (o := .cells #[.int .i64 a0_0, .int .i64 a0_1] 82 (0, 0)) (mB_ BK374.out) hb); have _ := aM (belG_step (zh GE374.out) hb); have _ := aM (hbox); have _ := aM ((zj GE374.out : w.heap.size ≤ gb375)); have _ := aM ((zj GE374.out : w.heap.size ≤ gb375)); have _ := aM ((zl BK374.out : gb374 ≠ gb375)); have _ := aM ((zn BK374.out : gb375 ≠ gb374)); clear BK374 HB; rename_i BK374 HB BK375 GW375 GE375 NB374_375 NB375_374; clear hb hbox hg; have hnb13 := NB374_375.out; have hnc13 := NB375_374.out; obtain ⟨hcz14_0, hcz14_1, hfz14_0, hfz14_1⟩ := zQ2 BK374.out; obtain ⟨hcz15_0, hcz15_1, hfz15_0, hfz15_1⟩ := zQ2 BK375.out) | ((with_reducible refine gate_callee (f := 133) rfl ?_); refine goesL_ (some 10) rfl rfl Tryz.func133 (by kernel_rfl) rfl #[.int .i64 a0_1, .int .i64 a1_1] rfl zm ?_; (with_reducible refine (cmp_Compare_int64.calls a0_1 a1_1 t376 _ A3.out).mono ?_); rintro e w' ⟨rfl, ⟨nd, rfl⟩⟩; refine ⟨_, rfl, ?_⟩))
  go_ret
  exact ⟨zw, by repeat (first | (with_reducible first | exact HB.out | apply belG_alloc | apply pw_belG_drewN | apply belG_drew1 | refine belG_set ?_ GE374.out | refine belG_set ?_ GE375.out) | exact HB.out)⟩
 rw [if_pos c4] at H
 have c4b0 : (t376 == 0) = true := beq_iff_eq.mpr c4
 have c4b1 : (t376 != 0) = false := bne_eq_false_iff_eq.mpr c4
 clear c4
 replace H := Option.bind_eq_some_iff.mp H
 obtain ⟨t377, A50, H⟩ := H
 replace H : (some t377) = some r := H
 have A5 := aM A50
 clear A50
 obtain rfl := Option.some.inj H
 go_enter Tryz.func98, Tryz.ntmps98
 go_wp2_with (first | ((with_reducible refine gate_dst (N := 2) rfl ?_); refine box_eventD ?hg (N := 2) ?hd (cs := #[.int .i64 a0_0, .int .i64 a0_1]) (t := 82) ?hr ?_; (case hd => rfl); (case hg => rfl); (case hr => first | (go_simp; done) | (go_simp; rfl)); intro gb374 hg w6 hbox hb; have _ := aM (belG_step zg hb); have _ := aM (hbox); have _ := aM ((zi : w.heap.size ≤ gb374)); have _ := aM ((zi : w.heap.size ≤ gb374)); clear HB; rename_i HB BK374 GW374 GE374; clear hb hbox hg) | ((with_reducible refine gate_dst (N := 3) rfl ?_); refine box_eventD ?hg (N := 3) ?hd (cs := #[.int .i64 a1_0, .int .i64 a1_1]) (t := 82) ?hr ?_; (case hd => rfl); (case hg => rfl); (case hr => first | (go_simp; done) | (go_simp; rfl)); intro gb375 hg w7 hbox hb; have _ := aM (blk_belG (g := gb374) (o := .cells #[.int .i64 a0_0, .int .i64 a0_1] 82 (0, 0)) (mB_ BK374.out) hb); have _ := aM (belG_step (zh GE374.out) hb); have _ := aM (hbox); have _ := aM ((zj GE374.out : w.heap.size ≤ gb375)); have _ := aM ((zj GE374.out : w.heap.size ≤ gb375)); have _ := aM ((zl BK374.out : gb374 ≠ gb375)); have _ := aM ((zn BK374.out : gb375 ≠ gb374)); clear BK374 HB; rename_i BK374 HB BK375 GW375 GE375 NB374_375 NB375_374; clear hb hbox hg; have hnb8 := NB374_375.out; have hnc8 := NB375_374.out; obtain ⟨hcz9_0, hcz9_1, hfz9_0, hfz9_1⟩ := zQ2 BK374.out; obtain ⟨hcz10_0, hcz10_1, hfz10_0, hfz10_1⟩ := zQ2 BK375.out) | ((with_reducible refine gate_callee (f := 133) rfl ?_); refine goesL_ (some 10) rfl rfl Tryz.func133 (by kernel_rfl) rfl #[.int .i64 a0_1, .int .i64 a1_1] rfl zm ?_; (with_reducible refine (cmp_Compare_int64.calls a0_1 a1_1 t376 _ A3.out).mono ?_); rintro e w' ⟨rfl, ⟨nd, rfl⟩⟩; refine ⟨_, rfl, ?_⟩) | ((with_reducible refine gate_callee (f := 133) rfl ?_); refine goesL_ (some 18) rfl rfl Tryz.func133 (by kernel_rfl) rfl #[.int .i64 a0_0, .int .i64 a1_0] rfl zm ?_; (with_reducible refine (cmp_Compare_int64.calls a0_0 a1_0 t377 _ A5.out).mono ?_); rintro e w' ⟨rfl, ⟨nd, rfl⟩⟩; refine ⟨_, rfl, ?_⟩))
 go_ret
 exact ⟨zw, by repeat (first | (with_reducible first | exact HB.out | apply belG_alloc | apply pw_belG_drewN | apply belG_drew1 | refine belG_set ?_ GE374.out | refine belG_set ?_ GE375.out) | exact HB.out)⟩
def impl_IsShape.l0 : Nat → List (S82) → List (S82) → Int → Int → Option (Bool)
 | 0, _, _, _, _ => none
 | k + 1, x0, x5, x6, x7 => if x7 < x6 then (if 0 ≤ x7 then (if x7 < (x5.length : Int) then ((impl_isCoordinate.f ((rd_T82 x5 x7).f0)).bind fun t380 => (if t380 = true then ((impl_isCoordinate.f ((rd_T82 x5 x7).f1)).bind fun t381 => (if t381 = true then (if x7 > 0 then (if 0 ≤ (wrap64 (x7 - 1)) then (if (wrap64 (x7 - 1)) < (x0.length : Int) then ((impl_compareCells.f ((rd_T82 x0 (wrap64 (x7 - 1))).f0) ((rd_T82 x0 (wrap64 (x7 - 1))).f1) ((rd_T82 x5 x7).f0) ((rd_T82 x5 x7).f1)).bind fun t383 => (if t383 ≥ 0 then (some false) else (impl_IsShape.l0 k x0 x5 x6 (wrap64 (x7 + 1))))) else (none)) else (none)) else (impl_IsShape.l0 k x0 x5 x6 (wrap64 (x7 + 1)))) else (some false))) else (some false))) else (none)) else (none)) else (if (x0.length : Int) ≥ 1 then (some (decide ((x0.length : Int) ≤ 40))) else (some false))
def impl_IsShape.f (k : Nat) (l0 : List (S82)) : Option (Bool) := impl_IsShape.l0 k l0 l0 (l0.length : Int) 0
def impl_IsShape.T4 : Bool × List (List Nat × List Nat) := (true, [([], []), ([0], [0]), ([1], [1]), ([2], [2]), ([3, 2], [3]), ([4], [4]), ([5, 4], [4, 5]), ([6, 4, 4], [4, 6]), ([7, 4], [4, 7]), ([4, 8], [4, 8]), ([9, 7], [9]), ([10], [10]), ([11, 10], [10, 11]), ([12, 10, 10], [10, 12]), ([13], [13]), ([13], [13]), ([15, 13], [13, 15]), ([14, 16, 13], [13, 14, 16]), ([17, 13], [13, 17]), ([13], [13]), ([18, 19, 13, 13], [13, 18, 19]), ([20, 13], [13, 20]), ([13, 21, 10], [10, 13, 21]), ([10, 22], [10, 22])])
def impl_IsShape.B4 : List Nat := [0, 1, 3, 7, 15, 31, 63, 127, 255, 511, 1023, 2047, 4095, 8191, 16383, 16383, 49151, 131071, 262143, 16383, 1048575, 2097151, 4194303, 8388607]
theorem impl_IsShape.tab4 : rtab .any (opsOf Tryz.f68 4) = impl_IsShape.T4 := by kernel_rfl
theorem impl_IsShape.bits4 : waitsOk impl_IsShape.T4.2 impl_IsShape.B4 = true := by kernel_rfl
theorem impl_IsShape.calls (k : Nat) (A0 : Option Addr) (c0 : Nat) (l0 : List (S82)) (r : Bool) (w : World) (hr0 : Kd.C k82 w A0 l0.length l0) (hc0 : l0.length ≤ c0) (h : impl_IsShape.f k l0 = some r) :
  Calls Tryz.prog 68 #[.slice A0 l0.length c0] w fun e w' => e = .returned (.bool r) ∧ Below w.heap.size w w' := by
 have hu82 := Tryz.underlying82
 have HR0 := aM hr0
 have HC0 := aM hc0
 clear hr0 hc0
 have HB := aM (Below.refl w.heap.size w)
 have H : (impl_IsShape.l0 k l0 l0 (l0.length : Int) 0) = some r := h
 clear h
 have H' := aM H
 clear H
 go_enter Tryz.func68, Tryz.ntmps68
 go_wp2
 go_loopg [7] k (fun kq v7 w' => ∃ (x7_1 : Int), v7 = .int .i64 x7_1 ∧ Aside0 (impl_IsShape.l0 kq l0 l0 (l0.length : Int) x7_1 = some r) ∧ Aside0 (kq ≤ k) ∧ Aside0 (Below w.heap.size w w'))
 case atStart => exact ⟨(0), zr, H', ⟨Nat.le_refl _⟩, ⟨zb⟩⟩
 case round =>
  clear H'
  obtain ⟨x7_1, rfl, HA, HK1, HB⟩ := hrel
  cases gk with
  | zero => exact absurd HA.out (by simp [impl_IsShape.l0])
  | succ k1 =>
   have H := HA.out
   clear HA
   simp only [impl_IsShape.l0] at H
   by_cases c2 : x7_1 < (l0.length : Int)
   rotate_left
   ·rw [if_neg c2] at H
    have c2b0 : decide (x7_1 < (l0.length : Int)) = false := decide_eq_false c2
    clear c2
    by_cases c37 : (l0.length : Int) ≥ 1
    ·rw [if_pos c37] at H
     have c37b0 : decide (1 ≤ (l0.length : Int)) = true := decide_eq_true c37
     have c37b1 : decide (1 ≤ l0.length) = true := decide_eq_true (by omega)
     clear c37
     obtain rfl := Option.some.inj H
     go_wp2
     go_ret
     exact ⟨zw, zb⟩
    rw [if_neg c37] at H
    have c37b0 : decide (1 ≤ (l0.length : Int)) = false := decide_eq_false c37
    have c37b1 : decide (1 ≤ l0.length) = false := decide_eq_false (by omega)
    clear c37
    obtain rfl := Option.some.inj H
    go_wp2
    go_ret
    exact ⟨zw, zb⟩
   rw [if_pos c2] at H
   have c2b0 : decide (x7_1 < (l0.length : Int)) = true := decide_eq_true c2
   clear c2
   by_cases c3 : 0 ≤ x7_1
   rotate_left
   ·rw [if_neg c3] at H
    exact absurd H (by simp)
   rw [if_pos c3] at H
   have c3b0 : decide (0 ≤ x7_1) = true := decide_eq_true c3
   clear c3
   by_cases c4 : x7_1 < (l0.length : Int)
   rotate_left
   ·rw [if_neg c4] at H
    exact absurd H (by simp)
   rw [if_pos c4] at H
   have c4b0 : decide (x7_1 < (l0.length : Int)) = true := decide_eq_true c4
   clear c4
   replace H := Option.bind_eq_some_iff.mp H
   obtain ⟨t380, A50, H⟩ := H
   replace H : (if t380 = true then ((impl_isCoordinate.f ((rd_T82 l0 x7_1).f1)).bind fun t381 => (if t381 = true then (if x7_1 > 0 then (if 0 ≤ (wrap64 (x7_1 - 1)) then (if (wrap64 (x7_1 - 1)) < (l0.length : Int) then ((impl_compareCells.f ((rd_T82 l0 (wrap64 (x7_1 - 1))).f0) ((rd_T82 l0 (wrap64 (x7_1 - 1))).f1) ((rd_T82 l0 x7_1).f0) ((rd_T82 l0 x7_1).f1)).bind fun t383 => (if t383 ≥ 0 then (some false) else (impl_IsShape.l0 k1 l0 l0 (l0.length : Int) (wrap64 (x7_1 + 1))))) else (none)) else (none)) else (impl_IsShape.l0 k1 l0 l0 (l0.length : Int) (wrap64 (x7_1 + 1)))) else (some false))) else (some false)) = some r := H
   have A5 := aM A50
   clear A50
   by_cases c6 : t380 = true
   rotate_left
   ·replace c6 := Bool.eq_false_iff.mpr c6
    subst c6
    have H1 : (some false) = some r := by rw [if_neg (show ¬ (false = true) by decide)] at H; exact H
    clear H
    have H := H1
    clear H1
    obtain rfl := Option.some.inj H
    have p378 : 0 ≤ (x7_1 : Int) := of_decide_eq_true za
    have q378 : x7_1 < (l0.length : Int) := of_decide_eq_true za
    obtain ⟨ad378, e378, hx378_0, hx378_1⟩ := at_T82 HR0.out x7_1 p378 q378
    cases e378
    replace hx378_0 := zk HB.out hx378_0
    replace hx378_1 := zk HB.out hx378_1
    replace p378 := eq_true p378
    replace q378 := eq_true q378
    try go_wp2_with (first | ((with_reducible refine gate_dst (N := 4) rfl ?_); (try (refine gate_guard (by rfl) ?_; dsimp only)); refine zx 4 #[.int .i64 0, .int .i64 0] 82 ?_; intro gb379 hg w33 hbox hb; have _ := aM (below_step zb hb); have _ := aM (hbox); have _ := aM ((ze : w.heap.size ≤ gb379)); have _ := aM ((ze : w.heap.size ≤ gb379)); clear HB; rename_i HB BK379 GW379 GE379; clear hb hbox hg; obtain ⟨hcz34_0, hcz34_1, hfz34_0, hfz34_1⟩ := zQ2 BK379.out))
    have n0_ : Aside0 (((w33.setCell ⟨gb379, 0, none⟩ (.int .i64 ((rd_T82 l0 x7_1).f0))).setCell ⟨gb379, 1, none⟩ (.int .i64 ((rd_T82 l0 x7_1).f1))).heap[gb379]? = some (.cells #[.int .i64 ((rd_T82 l0 x7_1).f0), .int .i64 ((rd_T82 l0 x7_1).f1)] 82 (0, 0))) := ⟨by (with_reducible repeat (first | refine blk_drewN ?_ _ | refine blk_drew ?_ | refine blk_alloc ?_ _)); refine blk_put (cs := #[.int .i64 ((rd_T82 l0 x7_1).f0), .int .i64 0]) ?_ 1 _ rfl; (with_reducible repeat (first | refine blk_drewN ?_ _ | refine blk_drew ?_ | refine blk_alloc ?_ _)); refine blk_put (cs := #[.int .i64 0, .int .i64 0]) ?_ 0 _ rfl; (with_reducible repeat (first | refine blk_drewN ?_ _ | refine blk_drew ?_ | refine blk_alloc ?_ _)); exact BK379.out⟩
    have n1_ : Aside0 (Below w.heap.size w ((w33.setCell ⟨gb379, 0, none⟩ (.int .i64 ((rd_T82 l0 x7_1).f0))).setCell ⟨gb379, 1, none⟩ (.int .i64 ((rd_T82 l0 x7_1).f1)))) := ⟨zs GE379.out⟩
    (try clear BK379)
    (try clear HB)
    generalize ((w33.setCell ⟨gb379, 0, none⟩ (.int .i64 ((rd_T82 l0 x7_1).f0))).setCell ⟨gb379, 1, none⟩ (.int .i64 ((rd_T82 l0 x7_1).f1))) = w35 at n0_ n1_ ⊢
    have BK379 := n0_
    have HB := n1_
    clear n0_ n1_
    have _ := aM (blk_drew BK379.out)
    have _ := aM (below_drew1 HB.out)
    clear BK379
    clear HB
    rename_i BK379 HB
    refine start_ (n := 24) (S := fun w' => w'.cell? ⟨gb379, 0, none⟩ = some (.int .i64 ((rd_T82 l0 x7_1).f0)) ∧ w'.cell? ⟨gb379, 1, none⟩ = some (.int .i64 ((rd_T82 l0 x7_1).f1))) (ds := []) zA108 (by kernel_rfl) rfl rfl ⟨(blk_cell BK379.out 0).trans rfl, (blk_cell BK379.out 1).trans rfl⟩ (fun hHeld => ?_); refine with_tabW impl_IsShape.tab4 impl_IsShape.bits4 (fun HT_ HW_ => ?_)
    generalize w35.drew = w36 at BK379 HB hHeld ⊢
    refine zP 0 (some 12) zA109 ?_
    refine zU2 1 (some 13) zA110 hHeld ?_
    refine one_ (i := 2) (N := some 14) zA111 rfl rfl (one_of HT_.out (by kernel_rfl)) (by decide) (fun K hK => ?_)
    refine goes_ Tryz.func97 (by kernel_rfl) rfl #[.int .i64 ((rd_T82 l0 x7_1).f0)] (by rfl) rfl rfl zm ?_
    with_reducible refine (impl_isCoordinate.calls ((rd_T82 l0 x7_1).f0) false _ A5.out).mono ?_
    rintro e w' ⟨rfl, ⟨nd, rfl⟩⟩
    refine ⟨_, rfl, ?_⟩
    refine hK.out _ _ ⟨(blk_cell BK379.out 0).trans rfl, (blk_cell BK379.out 1).trans rfl⟩ (fun hHeld => ?_)
    clear hK K
    refine norm_ (a' := ?_) ?_ ?_
    rotate_left
    ·show Act.put _ (some 14) _ = _
     simp only [Act.put, xA, xB, xC, i64_w, i32_w]
     rfl
    refine zP 3 (some 15) zA112 ?_
    refine zP 4 (some 16) zA113 ?_
    refine zp 5 (some 17) undef zA114 rfl rfl (Or.inr ⟨by rfl, rfl⟩) ?_ ?_ ?_
    rotate_left
    ·simp only [Act.put, xA, xB, xC, i64_w, i32_w]
     rfl
    refine zp 6 (some 18) undef zA115 rfl rfl (Or.inr ⟨by rfl, rfl⟩) ?_ ?_ ?_
    rotate_left
    ·simp only [Act.put, xA, xB, xC, i64_w, i32_w]
     rfl
    refine zp 7 (some 19) undef zA116 rfl rfl (Or.inr ⟨by rfl, rfl⟩) ?_ ?_ ?_
    rotate_left
    ·simp only [Act.put, xA, xB, xC, i64_w, i32_w]
     rfl
    refine zp 8 (some 20) undef zA117 rfl rfl (Or.inr ⟨by rfl, rfl⟩) ?_ ?_ ?_
    rotate_left
    ·simp only [Act.put, xA, xB, xC, i64_w, i32_w]
     rfl
    refine zP 9 (some 21) zA118 ?_
    refine zP 10 (some 22) zA119 ?_
    refine zp 11 (some 23) undef zA120 rfl rfl (Or.inr ⟨by rfl, rfl⟩) ?_ ?_ ?_
    rotate_left
    ·simp only [Act.put, xA, xB, xC, i64_w, i32_w]
     rfl
    refine zp 12 (some 24) undef zA121 rfl rfl (Or.inr ⟨by rfl, rfl⟩) ?_ ?_ ?_
    rotate_left
    ·simp only [Act.put, xA, xB, xC, i64_w, i32_w]
     rfl
    refine zp 13 (some 25) undef zA122 rfl rfl (Or.inr ⟨by rfl, rfl⟩) ?_ ?_ ?_
    rotate_left
    ·simp only [Act.put, xA, xB, xC, i64_w, i32_w]
     rfl
    refine zp 14 (some 26) undef zA123 rfl rfl (Or.inr ⟨by rfl, rfl⟩) ?_ ?_ ?_
    rotate_left
    ·simp only [Act.put, xA, xB, xC, i64_w, i32_w]
     rfl
    refine zp 15 (some 27) undef zA124 rfl rfl (Or.inr ⟨by rfl, rfl⟩) ?_ ?_ ?_
    rotate_left
    ·simp only [Act.put, xA, xB, xC, i64_w, i32_w]
     rfl
    refine zp 16 (some 28) undef zA125 rfl rfl (Or.inr ⟨by rfl, rfl⟩) ?_ ?_ ?_
    rotate_left
    ·simp only [Act.put, xA, xB, xC, i64_w, i32_w]
     rfl
    refine zp 17 (some 29) undef zA126 rfl rfl (Or.inr ⟨by rfl, rfl⟩) ?_ ?_ ?_
    rotate_left
    ·simp only [Act.put, xA, xB, xC, i64_w, i32_w]
     rfl
    refine zp 18 (some 30) undef zA127 rfl rfl (Or.inr ⟨by rfl, rfl⟩) ?_ ?_ ?_
    rotate_left
    ·simp only [Act.put, xA, xB, xC, i64_w, i32_w]
     rfl
    refine zp 19 (some 31) undef zA128 rfl rfl (Or.inr ⟨by rfl, rfl⟩) ?_ ?_ ?_
    rotate_left
    ·simp only [Act.put, xA, xB, xC, i64_w, i32_w]
     rfl
    refine zp 20 (some 32) undef zA129 rfl rfl (Or.inr ⟨by rfl, rfl⟩) ?_ ?_ ?_
    rotate_left
    ·simp only [Act.put, xA, xB, xC, i64_w, i32_w]
     rfl
    refine zp 21 (some 33) undef zA130 rfl rfl (Or.inr ⟨by rfl, rfl⟩) ?_ ?_ ?_
    rotate_left
    ·simp only [Act.put, xA, xB, xC, i64_w, i32_w]
     rfl
    refine zp 22 (some 34) undef zA131 rfl rfl (Or.inr ⟨by rfl, rfl⟩) ?_ ?_ ?_
    rotate_left
    ·simp only [Act.put, xA, xB, xC, i64_w, i32_w]
     rfl
    refine zP 23 (some 35) zA132 ?_
    refine done_ (done_of HT_.out (by kernel_rfl)) ?_
    try go_wp2
    go_ret
    exact ⟨zw, zs GE379.out⟩
   subst c6
   have H1 : ((impl_isCoordinate.f ((rd_T82 l0 x7_1).f1)).bind fun t381 => (if t381 = true then (if x7_1 > 0 then (if 0 ≤ (wrap64 (x7_1 - 1)) then (if (wrap64 (x7_1 - 1)) < (l0.length : Int) then ((impl_compareCells.f ((rd_T82 l0 (wrap64 (x7_1 - 1))).f0) ((rd_T82 l0 (wrap64 (x7_1 - 1))).f1) ((rd_T82 l0 x7_1).f0) ((rd_T82 l0 x7_1).f1)).bind fun t383 => (if t383 ≥ 0 then (some false) else (impl_IsShape.l0 k1 l0 l0 (l0.length : Int) (wrap64 (x7_1 + 1))))) else (none)) else (none)) else (impl_IsShape.l0 k1 l0 l0 (l0.length : Int) (wrap64 (x7_1 + 1)))) else (some false))) = some r := by rw [if_pos rfl] at H; exact H
   clear H
   have H := H1
   clear H1
   replace H := Option.bind_eq_some_iff.mp H
   obtain ⟨t381, A70, H⟩ := H
   replace H : (if t381 = true then (if x7_1 > 0 then (if 0 ≤ (wrap64 (x7_1 - 1)) then (if (wrap64 (x7_1 - 1)) < (l0.length : Int) then ((impl_compareCells.f ((rd_T82 l0 (wrap64 (x7_1 - 1))).f0) ((rd_T82 l0 (wrap64 (x7_1 - 1))).f1) ((rd_T82 l0 x7_1).f0) ((rd_T82 l0 x7_1).f1)).bind fun t383 => (if t383 ≥ 0 then (some false) else (impl_IsShape.l0 k1 l0 l0 (l0.length : Int) (wrap64 (x7_1 + 1))))) else (none)) else (none)) else (impl_IsShape.l0 k1 l0 l0 (l0.length : Int) (wrap64 (x7_1 + 1)))) else (some false)) = some r := H
   have A7 := aM A70
   clear A70
   by_cases c8 : t381 = true
   rotate_left
   ·replace c8 := Bool.eq_false_iff.mpr c8
    subst c8
    have H1 : (some false) = some r := by rw [if_neg (show ¬ (false = true) by decide)] at H; exact H
    clear H
    have H := H1
    clear H1
    obtain rfl := Option.some.inj H
    have p378 : 0 ≤ (x7_1 : Int) := of_decide_eq_true za
    have q378 : x7_1 < (l0.length : Int) := of_decide_eq_true za
    obtain ⟨ad378, e378, hx378_0, hx378_1⟩ := at_T82 HR0.out x7_1 p378 q378
    cases e378
    replace hx378_0 := zk HB.out hx378_0
    replace hx378_1 := zk HB.out hx378_1
    replace p378 := eq_true p378
    replace q378 := eq_true q378
    try go_wp2_with (first | ((with_reducible refine gate_dst (N := 4) rfl ?_); (try (refine gate_guard (by rfl) ?_; dsimp only)); refine zx 4 #[.int .i64 0, .int .i64 0] 82 ?_; intro gb379 hg w29 hbox hb; have _ := aM (below_step zb hb); have _ := aM (hbox); have _ := aM ((ze : w.heap.size ≤ gb379)); have _ := aM ((ze : w.heap.size ≤ gb379)); clear HB; rename_i HB BK379 GW379 GE379; clear hb hbox hg; obtain ⟨hcz30_0, hcz30_1, hfz30_0, hfz30_1⟩ := zQ2 BK379.out))
    have n0_ : Aside0 (((w29.setCell ⟨gb379, 0, none⟩ (.int .i64 ((rd_T82 l0 x7_1).f0))).setCell ⟨gb379, 1, none⟩ (.int .i64 ((rd_T82 l0 x7_1).f1))).heap[gb379]? = some (.cells #[.int .i64 ((rd_T82 l0 x7_1).f0), .int .i64 ((rd_T82 l0 x7_1).f1)] 82 (0, 0))) := ⟨by (with_reducible repeat (first | refine blk_drewN ?_ _ | refine blk_drew ?_ | refine blk_alloc ?_ _)); refine blk_put (cs := #[.int .i64 ((rd_T82 l0 x7_1).f0), .int .i64 0]) ?_ 1 _ rfl; (with_reducible repeat (first | refine blk_drewN ?_ _ | refine blk_drew ?_ | refine blk_alloc ?_ _)); refine blk_put (cs := #[.int .i64 0, .int .i64 0]) ?_ 0 _ rfl; (with_reducible repeat (first | refine blk_drewN ?_ _ | refine blk_drew ?_ | refine blk_alloc ?_ _)); exact BK379.out⟩
    have n1_ : Aside0 (Below w.heap.size w ((w29.setCell ⟨gb379, 0, none⟩ (.int .i64 ((rd_T82 l0 x7_1).f0))).setCell ⟨gb379, 1, none⟩ (.int .i64 ((rd_T82 l0 x7_1).f1)))) := ⟨zs GE379.out⟩
    (try clear BK379)
    (try clear HB)
    generalize ((w29.setCell ⟨gb379, 0, none⟩ (.int .i64 ((rd_T82 l0 x7_1).f0))).setCell ⟨gb379, 1, none⟩ (.int .i64 ((rd_T82 l0 x7_1).f1))) = w31 at n0_ n1_ ⊢
    have BK379 := n0_
    have HB := n1_
    clear n0_ n1_
    have _ := aM (blk_drew BK379.out)
    have _ := aM (below_drew1 HB.out)
    clear BK379
    clear HB
    rename_i BK379 HB
    refine start_ (n := 24) (S := fun w' => w'.cell? ⟨gb379, 0, none⟩ = some (.int .i64 ((rd_T82 l0 x7_1).f0)) ∧ w'.cell? ⟨gb379, 1, none⟩ = some (.int .i64 ((rd_T82 l0 x7_1).f1))) (ds := []) zA108 (by kernel_rfl) rfl rfl ⟨(blk_cell BK379.out 0).trans rfl, (blk_cell BK379.out 1).trans rfl⟩ (fun hHeld => ?_); refine with_tabW impl_IsShape.tab4 impl_IsShape.bits4 (fun HT_ HW_ => ?_)
    generalize w31.drew = w32 at BK379 HB hHeld ⊢
    refine zP 0 (some 12) zA109 ?_
    refine zU2 1 (some 13) zA110 hHeld ?_
    refine one_ (i := 2) (N := some 14) zA111 rfl rfl (one_of HT_.out (by kernel_rfl)) (by decide) (fun K hK => ?_)
    refine goes_ Tryz.func97 (by kernel_rfl) rfl #[.int .i64 ((rd_T82 l0 x7_1).f0)] (by rfl) rfl rfl zm ?_
    with_reducible refine (impl_isCoordinate.calls ((rd_T82 l0 x7_1).f0) true _ A5.out).mono ?_
    rintro e w' ⟨rfl, ⟨nd, rfl⟩⟩
    refine ⟨_, rfl, ?_⟩
    refine hK.out _ _ ⟨(blk_cell BK379.out 0).trans rfl, (blk_cell BK379.out 1).trans rfl⟩ (fun hHeld => ?_)
    clear hK K
    refine norm_ (a' := ?_) ?_ ?_
    rotate_left
    ·show Act.put _ (some 14) _ = _
     simp only [Act.put, xA, xB, xC, i64_w, i32_w]
     rfl
    refine zP 3 (some 15) zA112 ?_
    refine zP 4 (some 16) zA113 ?_
    refine zP 5 (some 17) zA114 ?_
    refine zU2 6 (some 18) zA115 hHeld ?_
    refine one_ (i := 7) (N := some 19) zA116 rfl rfl (one_of HT_.out (by kernel_rfl)) (by decide) (fun K hK => ?_)
    refine goes_ Tryz.func97 (by kernel_rfl) rfl #[.int .i64 ((rd_T82 l0 x7_1).f1)] (by rfl) rfl rfl zm ?_
    with_reducible refine (impl_isCoordinate.calls ((rd_T82 l0 x7_1).f1) false _ A7.out).mono ?_
    rintro e w' ⟨rfl, ⟨nd, rfl⟩⟩
    refine ⟨_, rfl, ?_⟩
    refine hK.out _ _ ⟨(blk_cell BK379.out 0).trans rfl, (blk_cell BK379.out 1).trans rfl⟩ (fun hHeld => ?_)
    clear hK K
    refine norm_ (a' := ?_) ?_ ?_
    rotate_left
    ·show Act.put _ (some 19) _ = _
     simp only [Act.put, xA, xB, xC, i64_w, i32_w]
     rfl
    refine zP 8 (some 20) zA117 ?_
    refine zP 9 (some 21) zA118 ?_
    refine zP 10 (some 22) zA119 ?_
    refine zp 11 (some 23) undef zA120 rfl rfl (Or.inr ⟨by rfl, rfl⟩) ?_ ?_ ?_
    rotate_left
    ·simp only [Act.put, xA, xB, xC, i64_w, i32_w]
     rfl
    refine zp 12 (some 24) undef zA121 rfl rfl (Or.inr ⟨by rfl, rfl⟩) ?_ ?_ ?_
    rotate_left
    ·simp only [Act.put, xA, xB, xC, i64_w, i32_w]
     rfl
    refine zp 13 (some 25) undef zA122 rfl rfl (Or.inr ⟨by rfl, rfl⟩) ?_ ?_ ?_
    rotate_left
    ·simp only [Act.put, xA, xB, xC, i64_w, i32_w]
     rfl
    refine zp 14 (some 26) undef zA123 rfl rfl (Or.inr ⟨by rfl, rfl⟩) ?_ ?_ ?_
    rotate_left
    ·simp only [Act.put, xA, xB, xC, i64_w, i32_w]
     rfl
    refine zp 15 (some 27) undef zA124 rfl rfl (Or.inr ⟨by rfl, rfl⟩) ?_ ?_ ?_
    rotate_left
    ·simp only [Act.put, xA, xB, xC, i64_w, i32_w]
     rfl
    refine zp 16 (some 28) undef zA125 rfl rfl (Or.inr ⟨by rfl, rfl⟩) ?_ ?_ ?_
    rotate_left
    ·simp only [Act.put, xA, xB, xC, i64_w, i32_w]
     rfl
    refine zp 17 (some 29) undef zA126 rfl rfl (Or.inr ⟨by rfl, rfl⟩) ?_ ?_ ?_
    rotate_left
    ·simp only [Act.put, xA, xB, xC, i64_w, i32_w]
     rfl
    refine zp 18 (some 30) undef zA127 rfl rfl (Or.inr ⟨by rfl, rfl⟩) ?_ ?_ ?_
    rotate_left
    ·simp only [Act.put, xA, xB, xC, i64_w, i32_w]
     rfl
    refine zp 19 (some 31) undef zA128 rfl rfl (Or.inr ⟨by rfl, rfl⟩) ?_ ?_ ?_
    rotate_left
    ·simp only [Act.put, xA, xB, xC, i64_w, i32_w]
     rfl
    refine zp 20 (some 32) undef zA129 rfl rfl (Or.inr ⟨by rfl, rfl⟩) ?_ ?_ ?_
    rotate_left
    ·simp only [Act.put, xA, xB, xC, i64_w, i32_w]
     rfl
    refine zp 21 (some 33) undef zA130 rfl rfl (Or.inr ⟨by rfl, rfl⟩) ?_ ?_ ?_
    rotate_left
    ·simp only [Act.put, xA, xB, xC, i64_w, i32_w]
     rfl
    refine zp 22 (some 34) undef zA131 rfl rfl (Or.inr ⟨by rfl, rfl⟩) ?_ ?_ ?_
    rotate_left
    ·simp only [Act.put, xA, xB, xC, i64_w, i32_w]
     rfl
    refine zP 23 (some 35) zA132 ?_
    refine done_ (done_of HT_.out (by kernel_rfl)) ?_
    try go_wp2
    go_ret
    exact ⟨zw, zs GE379.out⟩
   subst c8
   have H1 : (if x7_1 > 0 then (if 0 ≤ (wrap64 (x7_1 - 1)) then (if (wrap64 (x7_1 - 1)) < (l0.length : Int) then ((impl_compareCells.f ((rd_T82 l0 (wrap64 (x7_1 - 1))).f0) ((rd_T82 l0 (wrap64 (x7_1 - 1))).f1) ((rd_T82 l0 x7_1).f0) ((rd_T82 l0 x7_1).f1)).bind fun t383 => (if t383 ≥ 0 then (some false) else (impl_IsShape.l0 k1 l0 l0 (l0.length : Int) (wrap64 (x7_1 + 1))))) else (none)) else (none)) else (impl_IsShape.l0 k1 l0 l0 (l0.length : Int) (wrap64 (x7_1 + 1)))) = some r := by rw [if_pos rfl] at H; exact H
   clear H
   have H := H1
   clear H1
   by_cases c9 : x7_1 > 0
   rotate_left
   ·rw [if_neg c9] at H
    have c9b0 : decide (0 < x7_1) = false := decide_eq_false c9
    clear c9
    have H' := aM H
    clear H
    have p378 : 0 ≤ (x7_1 : Int) := of_decide_eq_true za
    have q378 : x7_1 < (l0.length : Int) := of_decide_eq_true za
    obtain ⟨ad378, e378, hx378_0, hx378_1⟩ := at_T82 HR0.out x7_1 p378 q378
    cases e378
    replace hx378_0 := zk HB.out hx378_0
    replace hx378_1 := zk HB.out hx378_1
    replace p378 := eq_true p378
    replace q378 := eq_true q378
    try go_wp2_with (first | ((with_reducible refine gate_dst (N := 4) rfl ?_); (try (refine gate_guard (by rfl) ?_; dsimp only)); refine zx 4 #[.int .i64 0, .int .i64 0] 82 ?_; intro gb379 hg w25 hbox hb; have _ := aM (below_step zb hb); have _ := aM (hbox); have _ := aM ((ze : w.heap.size ≤ gb379)); have _ := aM ((ze : w.heap.size ≤ gb379)); clear HB; rename_i HB BK379 GW379 GE379; clear hb hbox hg; obtain ⟨hcz26_0, hcz26_1, hfz26_0, hfz26_1⟩ := zQ2 BK379.out))
    have n0_ : Aside0 (((w25.setCell ⟨gb379, 0, none⟩ (.int .i64 ((rd_T82 l0 x7_1).f0))).setCell ⟨gb379, 1, none⟩ (.int .i64 ((rd_T82 l0 x7_1).f1))).heap[gb379]? = some (.cells #[.int .i64 ((rd_T82 l0 x7_1).f0), .int .i64 ((rd_T82 l0 x7_1).f1)] 82 (0, 0))) := ⟨by (with_reducible repeat (first | refine blk_drewN ?_ _ | refine blk_drew ?_ | refine blk_alloc ?_ _)); refine blk_put (cs := #[.int .i64 ((rd_T82 l0 x7_1).f0), .int .i64 0]) ?_ 1 _ rfl; (with_reducible repeat (first | refine blk_drewN ?_ _ | refine blk_drew ?_ | refine blk_alloc ?_ _)); refine blk_put (cs := #[.int .i64 0, .int .i64 0]) ?_ 0 _ rfl; (with_reducible repeat (first | refine blk_drewN ?_ _ | refine blk_drew ?_ | refine blk_alloc ?_ _)); exact BK379.out⟩
    have n1_ : Aside0 (Below w.heap.size w ((w25.setCell ⟨gb379, 0, none⟩ (.int .i64 ((rd_T82 l0 x7_1).f0))).setCell ⟨gb379, 1, none⟩ (.int .i64 ((rd_T82 l0 x7_1).f1)))) := ⟨zs GE379.out⟩
    (try clear BK379)
    (try clear HB)
    generalize ((w25.setCell ⟨gb379, 0, none⟩ (.int .i64 ((rd_T82 l0 x7_1).f0))).setCell ⟨gb379, 1, none⟩ (.int .i64 ((rd_T82 l0 x7_1).f1))) = w27 at n0_ n1_ ⊢
    have BK379 := n0_
    have HB := n1_
    clear n0_ n1_
    have _ := aM (blk_drew BK379.out)
    have _ := aM (below_drew1 HB.out)
    clear BK379
    clear HB
    rename_i BK379 HB
    refine start_ (n := 24) (S := fun w' => w'.cell? ⟨gb379, 0, none⟩ = some (.int .i64 ((rd_T82 l0 x7_1).f0)) ∧ w'.cell? ⟨gb379, 1, none⟩ = some (.int .i64 ((rd_T82 l0 x7_1).f1))) (ds := []) zA108 (by kernel_rfl) rfl rfl ⟨(blk_cell BK379.out 0).trans rfl, (blk_cell BK379.out 1).trans rfl⟩ (fun hHeld => ?_); refine with_tabW impl_IsShape.tab4 impl_IsShape.bits4 (fun HT_ HW_ => ?_)
    generalize w27.drew = w28 at BK379 HB hHeld ⊢
    refine zP 0 (some 12) zA109 ?_
    refine zU2 1 (some 13) zA110 hHeld ?_
    refine one_ (i := 2) (N := some 14) zA111 rfl rfl (one_of HT_.out (by kernel_rfl)) (by decide) (fun K hK => ?_)
    refine goes_ Tryz.func97 (by kernel_rfl) rfl #[.int .i64 ((rd_T82 l0 x7_1).f0)] (by rfl) rfl rfl zm ?_
    with_reducible refine (impl_isCoordinate.calls ((rd_T82 l0 x7_1).f0) true _ A5.out).mono ?_
    rintro e w' ⟨rfl, ⟨nd, rfl⟩⟩
    refine ⟨_, rfl, ?_⟩
    refine hK.out _ _ ⟨(blk_cell BK379.out 0).trans rfl, (blk_cell BK379.out 1).trans rfl⟩ (fun hHeld => ?_)
    clear hK K
    refine norm_ (a' := ?_) ?_ ?_
    rotate_left
    ·show Act.put _ (some 14) _ = _
     simp only [Act.put, xA, xB, xC, i64_w, i32_w]
     rfl
    refine zP 3 (some 15) zA112 ?_
    refine zP 4 (some 16) zA113 ?_
    refine zP 5 (some 17) zA114 ?_
    refine zU2 6 (some 18) zA115 hHeld ?_
    refine one_ (i := 7) (N := some 19) zA116 rfl rfl (one_of HT_.out (by kernel_rfl)) (by decide) (fun K hK => ?_)
    refine goes_ Tryz.func97 (by kernel_rfl) rfl #[.int .i64 ((rd_T82 l0 x7_1).f1)] (by rfl) rfl rfl zm ?_
    with_reducible refine (impl_isCoordinate.calls ((rd_T82 l0 x7_1).f1) true _ A7.out).mono ?_
    rintro e w' ⟨rfl, ⟨nd, rfl⟩⟩
    refine ⟨_, rfl, ?_⟩
    refine hK.out _ _ ⟨(blk_cell BK379.out 0).trans rfl, (blk_cell BK379.out 1).trans rfl⟩ (fun hHeld => ?_)
    clear hK K
    refine norm_ (a' := ?_) ?_ ?_
    rotate_left
    ·show Act.put _ (some 19) _ = _
     simp only [Act.put, xA, xB, xC, i64_w, i32_w]
     rfl
    refine zP 8 (some 20) zA117 ?_
    refine zP 9 (some 21) zA118 ?_
    refine zP 10 (some 22) zA119 ?_
    refine zP 11 (some 23) zA120 ?_
    refine zP 12 (some 24) zA121 ?_
    refine zP 13 (some 25) zA122 ?_
    refine zp 14 (some 26) undef zA123 rfl rfl (Or.inr ⟨by rfl, rfl⟩) ?_ ?_ ?_
    rotate_left
    ·simp only [Act.put, xA, xB, xC, i64_w, i32_w]
     rfl
    refine zp 15 (some 27) undef zA124 rfl rfl (Or.inr ⟨by rfl, rfl⟩) ?_ ?_ ?_
    rotate_left
    ·simp only [Act.put, xA, xB, xC, i64_w, i32_w]
     rfl
    refine zp 16 (some 28) undef zA125 rfl rfl (Or.inr ⟨by rfl, rfl⟩) ?_ ?_ ?_
    rotate_left
    ·simp only [Act.put, xA, xB, xC, i64_w, i32_w]
     rfl
    refine zp 17 (some 29) undef zA126 rfl rfl (Or.inr ⟨by rfl, rfl⟩) ?_ ?_ ?_
    rotate_left
    ·simp only [Act.put, xA, xB, xC, i64_w, i32_w]
     rfl
    refine zp 18 (some 30) undef zA127 rfl rfl (Or.inr ⟨by rfl, rfl⟩) ?_ ?_ ?_
    rotate_left
    ·simp only [Act.put, xA, xB, xC, i64_w, i32_w]
     rfl
    refine zp 19 (some 31) undef zA128 rfl rfl (Or.inr ⟨by rfl, rfl⟩) ?_ ?_ ?_
    rotate_left
    ·simp only [Act.put, xA, xB, xC, i64_w, i32_w]
     rfl
    refine zp 20 (some 32) undef zA129 rfl rfl (Or.inr ⟨by rfl, rfl⟩) ?_ ?_ ?_
    rotate_left
    ·simp only [Act.put, xA, xB, xC, i64_w, i32_w]
     rfl
    refine zp 21 (some 33) undef zA130 rfl rfl (Or.inr ⟨by rfl, rfl⟩) ?_ ?_ ?_
    rotate_left
    ·simp only [Act.put, xA, xB, xC, i64_w, i32_w]
     rfl
    refine zP 22 (some 34) zA131 ?_
    refine zP 23 (some 35) zA132 ?_
    refine done_ (done_of HT_.out (by kernel_rfl)) ?_
    try go_wp2
    go_roundg k1
    case measure => have := HK1.out; omega
    case rel => exact ⟨(wrap64 (x7_1 + 1)), zr, H', ⟨by have := HK1.out; omega⟩, ⟨zs GE379.out⟩⟩
   rw [if_pos c9] at H
   have c9b0 : decide (0 < x7_1) = true := decide_eq_true c9
   clear c9
   obtain ⟨ji10, hji10⟩ : ∃ j_ : Int, (wrap64 (x7_1 - 1)) = j_ := ⟨_, rfl⟩
   replace H : (if 0 ≤ (ji10) then (if (ji10) < (l0.length : Int) then ((impl_compareCells.f ((rd_T82 l0 (ji10)).f0) ((rd_T82 l0 (ji10)).f1) ((rd_T82 l0 x7_1).f0) ((rd_T82 l0 x7_1).f1)).bind fun t383 => (if t383 ≥ 0 then (some false) else (impl_IsShape.l0 k1 l0 l0 (l0.length : Int) (wrap64 (x7_1 + 1))))) else (none)) else (none)) = some r := by first | (rw [hji10] at H; exact H) | (simp only [hji10] at H ⊢; exact H)
   (try rw [hji10] at A5)
   (try rw [hji10] at A7)
   have hji10w : (IntKind.i64.wrap (x7_1 - 1)) = ji10 := (i64_w _).trans hji10
   by_cases c11 : 0 ≤ (ji10)
   rotate_left
   ·rw [if_neg c11] at H
    exact absurd H (by simp)
   rw [if_pos c11] at H
   have c11b0 : decide (0 ≤ (ji10)) = true := decide_eq_true c11
   clear c11
   by_cases c12 : (ji10) < (l0.length : Int)
   rotate_left
   ·rw [if_neg c12] at H
    exact absurd H (by simp)
   rw [if_pos c12] at H
   have c12b0 : decide ((ji10) < (l0.length : Int)) = true := decide_eq_true c12
   clear c12
   replace H := Option.bind_eq_some_iff.mp H
   obtain ⟨t383, A130, H⟩ := H
   replace H : (if t383 ≥ 0 then (some false) else (impl_IsShape.l0 k1 l0 l0 (l0.length : Int) (wrap64 (x7_1 + 1)))) = some r := H
   have A13 := aM A130
   clear A130
   by_cases c14 : t383 ≥ 0
   ·rw [if_pos c14] at H
    have c14b0 : decide (0 ≤ t383) = true := decide_eq_true c14
    clear c14
    obtain rfl := Option.some.inj H
    have p378 : 0 ≤ (x7_1 : Int) := of_decide_eq_true za
    have q378 : x7_1 < (l0.length : Int) := of_decide_eq_true za
    obtain ⟨ad378, e378, hx378_0, hx378_1⟩ := at_T82 HR0.out x7_1 p378 q378
    cases e378
    replace hx378_0 := zk HB.out hx378_0
    replace hx378_1 := zk HB.out hx378_1
    replace p378 := eq_true p378
    replace q378 := eq_true q378
    try go_wp2_with (first | ((with_reducible refine gate_dst (N := 4) rfl ?_); (try (refine gate_guard (by rfl) ?_; dsimp only)); refine zx 4 #[.int .i64 0, .int .i64 0] 82 ?_; intro gb379 hg w15 hbox hb; have _ := aM (below_step zb hb); have _ := aM (hbox); have _ := aM ((ze : w.heap.size ≤ gb379)); have _ := aM ((ze : w.heap.size ≤ gb379)); clear HB; rename_i HB BK379 GW379 GE379; clear hb hbox hg; obtain ⟨hcz16_0, hcz16_1, hfz16_0, hfz16_1⟩ := zQ2 BK379.out))
    have n0_ : Aside0 (((w15.setCell ⟨gb379, 0, none⟩ (.int .i64 ((rd_T82 l0 x7_1).f0))).setCell ⟨gb379, 1, none⟩ (.int .i64 ((rd_T82 l0 x7_1).f1))).heap[gb379]? = some (.cells #[.int .i64 ((rd_T82 l0 x7_1).f0), .int .i64 ((rd_T82 l0 x7_1).f1)] 82 (0, 0))) := ⟨by (with_reducible repeat (first | refine blk_drewN ?_ _ | refine blk_drew ?_ | refine blk_alloc ?_ _)); refine blk_put (cs := #[.int .i64 ((rd_T82 l0 x7_1).f0), .int .i64 0]) ?_ 1 _ rfl; (with_reducible repeat (first | refine blk_drewN ?_ _ | refine blk_drew ?_ | refine blk_alloc ?_ _)); refine blk_put (cs := #[.int .i64 0, .int .i64 0]) ?_ 0 _ rfl; (with_reducible repeat (first | refine blk_drewN ?_ _ | refine blk_drew ?_ | refine blk_alloc ?_ _)); exact BK379.out⟩
    have n1_ : Aside0 (Below w.heap.size w ((w15.setCell ⟨gb379, 0, none⟩ (.int .i64 ((rd_T82 l0 x7_1).f0))).setCell ⟨gb379, 1, none⟩ (.int .i64 ((rd_T82 l0 x7_1).f1)))) := ⟨zs GE379.out⟩
    (try clear BK379)
    (try clear HB)
    generalize ((w15.setCell ⟨gb379, 0, none⟩ (.int .i64 ((rd_T82 l0 x7_1).f0))).setCell ⟨gb379, 1, none⟩ (.int .i64 ((rd_T82 l0 x7_1).f1))) = w17 at n0_ n1_ ⊢
    have BK379 := n0_
    have HB := n1_
    clear n0_ n1_
    have _ := aM (blk_drew BK379.out)
    have _ := aM (below_drew1 HB.out)
    clear BK379
    clear HB
    rename_i BK379 HB
    have p382 : 0 ≤ ((ji10) : Int) := of_decide_eq_true za
    have q382 : (ji10) < (l0.length : Int) := of_decide_eq_true za
    obtain ⟨ad382, e382, hx382_0, hx382_1⟩ := at_T82 HR0.out (ji10) p382 q382
    have hw382_1 := hx382_1
    have hw382_0 := hx382_0
    obtain rfl : ad378 = ad382 := (by injection e382)
    replace hx382_0 := zk HB.out hx382_0
    replace hx382_1 := zk HB.out hx382_1
    replace p382 := eq_true p382
    replace q382 := eq_true q382
    refine start_ (n := 24) (S := fun w' => w'.cell? ⟨gb379, 0, none⟩ = some (.int .i64 ((rd_T82 l0 x7_1).f0)) ∧ w'.cell? ⟨gb379, 1, none⟩ = some (.int .i64 ((rd_T82 l0 x7_1).f1)) ∧ w'.cell? (ad378.add (((ji10)).toNat * 2)) = some (.int .i64 ((rd_T82 l0 (ji10)).f0)) ∧ w'.cell? ⟨(ad378.add (((ji10)).toNat * 2)).block, (ad378.add (((ji10)).toNat * 2)).off + 1, none⟩ = some (.int .i64 ((rd_T82 l0 (ji10)).f1))) (ds := []) zA108 (by kernel_rfl) rfl rfl ⟨(blk_cell BK379.out 0).trans rfl, (blk_cell BK379.out 1).trans rfl, (zk HB.out hw382_0), (zk HB.out hw382_1)⟩ (fun hHeld => ?_); refine with_tabW impl_IsShape.tab4 impl_IsShape.bits4 (fun HT_ HW_ => ?_)
    generalize w17.drew = w18 at BK379 HB hx382_0 hx382_1 hHeld ⊢
    refine zP 0 (some 12) zA109 ?_
    refine zU4 1 (some 13) zA110 hHeld ?_
    refine one_ (i := 2) (N := some 14) zA111 rfl rfl (one_of HT_.out (by kernel_rfl)) (by decide) (fun K hK => ?_)
    refine goes_ Tryz.func97 (by kernel_rfl) rfl #[.int .i64 ((rd_T82 l0 x7_1).f0)] (by rfl) rfl rfl zm ?_
    with_reducible refine (impl_isCoordinate.calls ((rd_T82 l0 x7_1).f0) true _ A5.out).mono ?_
    rintro e w' ⟨rfl, ⟨nd, rfl⟩⟩
    refine ⟨_, rfl, ?_⟩
    refine hK.out _ _ ⟨(blk_cell BK379.out 0).trans rfl, (blk_cell BK379.out 1).trans rfl, (zk HB.out hw382_0), (zk HB.out hw382_1)⟩ (fun hHeld => ?_)
    clear hK K
    refine norm_ (a' := ?_) ?_ ?_
    rotate_left
    ·show Act.put _ (some 14) _ = _
     simp only [Act.put, xA, xB, xC, i64_w, i32_w]
     rfl
    refine zP 3 (some 15) zA112 ?_
    refine zP 4 (some 16) zA113 ?_
    refine zP 5 (some 17) zA114 ?_
    refine zU4 6 (some 18) zA115 hHeld ?_
    refine one_ (i := 7) (N := some 19) zA116 rfl rfl (one_of HT_.out (by kernel_rfl)) (by decide) (fun K hK => ?_)
    refine goes_ Tryz.func97 (by kernel_rfl) rfl #[.int .i64 ((rd_T82 l0 x7_1).f1)] (by rfl) rfl rfl zm ?_
    with_reducible refine (impl_isCoordinate.calls ((rd_T82 l0 x7_1).f1) true _ A7.out).mono ?_
    rintro e w' ⟨rfl, ⟨nd, rfl⟩⟩
    refine ⟨_, rfl, ?_⟩
    refine hK.out _ _ ⟨(blk_cell BK379.out 0).trans rfl, (blk_cell BK379.out 1).trans rfl, (zk HB.out hw382_0), (zk HB.out hw382_1)⟩ (fun hHeld => ?_)
    clear hK K
    refine norm_ (a' := ?_) ?_ ?_
    rotate_left
    ·show Act.put _ (some 19) _ = _
     simp only [Act.put, xA, xB, xC, i64_w, i32_w]
     rfl
    refine zP 8 (some 20) zA117 ?_
    refine zP 9 (some 21) zA118 ?_
    refine zP 10 (some 22) zA119 ?_
    refine zP 11 (some 23) zA120 ?_
    refine zP 12 (some 24) zA121 ?_
    refine zP 13 (some 25) zA122 ?_
    refine zP 14 (some 26) zA123 ?_
    refine zP 15 (some 27) zA124 ?_
    refine zP 16 (some 28) zA125 ?_
    refine zP 17 (some 29) zA126 ?_
    refine zU4 18 (some 30) zA127 hHeld ?_
    refine zU4 19 (some 31) zA128 hHeld ?_
    refine one_ (i := 20) (N := some 32) zA129 rfl rfl (one_of HT_.out (by kernel_rfl)) (by decide) (fun K hK => ?_)
    refine goes_ Tryz.func98 (by kernel_rfl) rfl #[.agg #[.int .i64 ((rd_T82 l0 (ji10)).f0), .int .i64 ((rd_T82 l0 (ji10)).f1)], .agg #[.int .i64 ((rd_T82 l0 x7_1).f0), .int .i64 ((rd_T82 l0 x7_1).f1)]] (by rfl) rfl rfl (by (try simp only [mA, mB, mC]); first | done | (simp only [hji10]; rfl) | rfl | (simp only [lD, lT]; rfl)) ?_
    with_reducible refine (impl_compareCells.calls ((rd_T82 l0 (ji10)).f0) ((rd_T82 l0 (ji10)).f1) ((rd_T82 l0 x7_1).f0) ((rd_T82 l0 x7_1).f1) t383 _ A13.out).mono ?_
    rintro e w19 ⟨rfl, hb⟩
    refine ⟨_, rfl, ?_⟩
    have _ := aM (blk_below (g := gb379) (o := .cells #[.int .i64 ((rd_T82 l0 x7_1).f0), .int .i64 ((rd_T82 l0 x7_1).f1)] 82 (0, 0)) (mB_ BK379.out) hb)
    have _ := aM (below_step (zs GE379.out) hb)
    clear BK379
    clear HB
    rename_i BK379 HB
    (try clear hb)
    (try clear hb2)
    (try clear hk)
    (try clear hi)
    refine hK.out _ _ ⟨(blk_cell BK379.out 0).trans rfl, (blk_cell BK379.out 1).trans rfl, (zk HB.out hw382_0), (zk HB.out hw382_1)⟩ (fun hHeld => ?_)
    clear hK K
    refine norm_ (a' := ?_) ?_ ?_
    rotate_left
    ·show Act.put _ (some 32) _ = _
     simp only [Act.put, xA, xB, xC, i64_w, i32_w]
     rfl
    refine zP 21 (some 33) zA130 ?_
    refine zP 22 (some 34) zA131 ?_
    refine zP 23 (some 35) zA132 ?_
    refine done_ (done_of HT_.out (by kernel_rfl)) ?_
    try go_wp2
    go_ret
    exact ⟨by first | rfl | (simp [errW_none, errW_some] <;> rfl) | (simp only [← hji10]; first | rfl | (simp [errW_none, errW_some] <;> rfl)) | (simp [*, errW_none, errW_some] <;> rfl), zs GE379.out⟩
   rw [if_neg c14] at H
   have c14b0 : decide (0 ≤ t383) = false := decide_eq_false c14
   clear c14
   have H' := aM H
   clear H
   have p378 : 0 ≤ (x7_1 : Int) := of_decide_eq_true za
   have q378 : x7_1 < (l0.length : Int) := of_decide_eq_true za
   obtain ⟨ad378, e378, hx378_0, hx378_1⟩ := at_T82 HR0.out x7_1 p378 q378
   cases e378
   replace hx378_0 := zk HB.out hx378_0
   replace hx378_1 := zk HB.out hx378_1
   replace p378 := eq_true p378
   replace q378 := eq_true q378
   try go_wp2_with (first | ((with_reducible refine gate_dst (N := 4) rfl ?_); (try (refine gate_guard (by rfl) ?_; dsimp only)); refine zx 4 #[.int .i64 0, .int .i64 0] 82 ?_; intro gb379 hg w20 hbox hb; have _ := aM (below_step zb hb); have _ := aM (hbox); have _ := aM ((ze : w.heap.size ≤ gb379)); have _ := aM ((ze : w.heap.size ≤ gb379)); clear HB; rename_i HB BK379 GW379 GE379; clear hb hbox hg; obtain ⟨hcz21_0, hcz21_1, hfz21_0, hfz21_1⟩ := zQ2 BK379.out))
   have n0_ : Aside0 (((w20.setCell ⟨gb379, 0, none⟩ (.int .i64 ((rd_T82 l0 x7_1).f0))).setCell ⟨gb379, 1, none⟩ (.int .i64 ((rd_T82 l0 x7_1).f1))).heap[gb379]? = some (.cells #[.int .i64 ((rd_T82 l0 x7_1).f0), .int .i64 ((rd_T82 l0 x7_1).f1)] 82 (0, 0))) := ⟨by (with_reducible repeat (first | refine blk_drewN ?_ _ | refine blk_drew ?_ | refine blk_alloc ?_ _)); refine blk_put (cs := #[.int .i64 ((rd_T82 l0 x7_1).f0), .int .i64 0]) ?_ 1 _ rfl; (with_reducible repeat (first | refine blk_drewN ?_ _ | refine blk_drew ?_ | refine blk_alloc ?_ _)); refine blk_put (cs := #[.int .i64 0, .int .i64 0]) ?_ 0 _ rfl; (with_reducible repeat (first | refine blk_drewN ?_ _ | refine blk_drew ?_ | refine blk_alloc ?_ _)); exact BK379.out⟩
   have n1_ : Aside0 (Below w.heap.size w ((w20.setCell ⟨gb379, 0, none⟩ (.int .i64 ((rd_T82 l0 x7_1).f0))).setCell ⟨gb379, 1, none⟩ (.int .i64 ((rd_T82 l0 x7_1).f1)))) := ⟨zs GE379.out⟩
   (try clear BK379)
   (try clear HB)
   generalize ((w20.setCell ⟨gb379, 0, none⟩ (.int .i64 ((rd_T82 l0 x7_1).f0))).setCell ⟨gb379, 1, none⟩ (.int .i64 ((rd_T82 l0 x7_1).f1))) = w22 at n0_ n1_ ⊢
   have BK379 := n0_
   have HB := n1_
   clear n0_ n1_
   have _ := aM (blk_drew BK379.out)
   have _ := aM (below_drew1 HB.out)
   clear BK379
   clear HB
   rename_i BK379 HB
   have p382 : 0 ≤ ((ji10) : Int) := of_decide_eq_true za
   have q382 : (ji10) < (l0.length : Int) := of_decide_eq_true za
   obtain ⟨ad382, e382, hx382_0, hx382_1⟩ := at_T82 HR0.out (ji10) p382 q382
   have hw382_1 := hx382_1
   have hw382_0 := hx382_0
   obtain rfl : ad378 = ad382 := (by injection e382)
   replace hx382_0 := zk HB.out hx382_0
   replace hx382_1 := zk HB.out hx382_1
   replace p382 := eq_true p382
   replace q382 := eq_true q382
   refine start_ (n := 24) (S := fun w' => w'.cell? ⟨gb379, 0, none⟩ = some (.int .i64 ((rd_T82 l0 x7_1).f0)) ∧ w'.cell? ⟨gb379, 1, none⟩ = some (.int .i64 ((rd_T82 l0 x7_1).f1)) ∧ w'.cell? (ad378.add (((ji10)).toNat * 2)) = some (.int .i64 ((rd_T82 l0 (ji10)).f0)) ∧ w'.cell? ⟨(ad378.add (((ji10)).toNat * 2)).block, (ad378.add (((ji10)).toNat * 2)).off + 1, none⟩ = some (.int .i64 ((rd_T82 l0 (ji10)).f1))) (ds := []) zA108 (by kernel_rfl) rfl rfl ⟨(blk_cell BK379.out 0).trans rfl, (blk_cell BK379.out 1).trans rfl, (zk HB.out hw382_0), (zk HB.out hw382_1)⟩ (fun hHeld => ?_); refine with_tabW impl_IsShape.tab4 impl_IsShape.bits4 (fun HT_ HW_ => ?_)
   generalize w22.drew = w23 at BK379 HB hx382_0 hx382_1 hHeld ⊢
   refine zP 0 (some 12) zA109 ?_
   refine zU4 1 (some 13) zA110 hHeld ?_
   refine one_ (i := 2) (N := some 14) zA111 rfl rfl (one_of HT_.out (by kernel_rfl)) (by decide) (fun K hK => ?_)
   refine goes_ Tryz.func97 (by kernel_rfl) rfl #[.int .i64 ((rd_T82 l0 x7_1).f0)] (by rfl) rfl rfl zm ?_
   with_reducible refine (impl_isCoordinate.calls ((rd_T82 l0 x7_1).f0) true _ A5.out).mono ?_
   rintro e w' ⟨rfl, ⟨nd, rfl⟩⟩
   refine ⟨_, rfl, ?_⟩
   refine hK.out _ _ ⟨(blk_cell BK379.out 0).trans rfl, (blk_cell BK379.out 1).trans rfl, (zk HB.out hw382_0), (zk HB.out hw382_1)⟩ (fun hHeld => ?_)
   clear hK K
   refine norm_ (a' := ?_) ?_ ?_
   rotate_left
   ·show Act.put _ (some 14) _ = _
    simp only [Act.put, xA, xB, xC, i64_w, i32_w]
    rfl
   refine zP 3 (some 15) zA112 ?_
   refine zP 4 (some 16) zA113 ?_
   refine zP 5 (some 17) zA114 ?_
   refine zU4 6 (some 18) zA115 hHeld ?_
   refine one_ (i := 7) (N := some 19) zA116 rfl rfl (one_of HT_.out (by kernel_rfl)) (by decide) (fun K hK => ?_)
   refine goes_ Tryz.func97 (by kernel_rfl) rfl #[.int .i64 ((rd_T82 l0 x7_1).f1)] (by rfl) rfl rfl zm ?_
   with_reducible refine (impl_isCoordinate.calls ((rd_T82 l0 x7_1).f1) true _ A7.out).mono ?_
   rintro e w' ⟨rfl, ⟨nd, rfl⟩⟩
   refine ⟨_, rfl, ?_⟩
   refine hK.out _ _ ⟨(blk_cell BK379.out 0).trans rfl, (blk_cell BK379.out 1).trans rfl, (zk HB.out hw382_0), (zk HB.out hw382_1)⟩ (fun hHeld => ?_)
   clear hK K
   refine norm_ (a' := ?_) ?_ ?_
   rotate_left
   ·show Act.put _ (some 19) _ = _
    simp only [Act.put, xA, xB, xC, i64_w, i32_w]
    rfl
   refine zP 8 (some 20) zA117 ?_
   refine zP 9 (some 21) zA118 ?_
   refine zP 10 (some 22) zA119 ?_
   refine zP 11 (some 23) zA120 ?_
   refine zP 12 (some 24) zA121 ?_
   refine zP 13 (some 25) zA122 ?_
   refine zP 14 (some 26) zA123 ?_
   refine zP 15 (some 27) zA124 ?_
   refine zP 16 (some 28) zA125 ?_
   refine zP 17 (some 29) zA126 ?_
   refine zU4 18 (some 30) zA127 hHeld ?_
   refine zU4 19 (some 31) zA128 hHeld ?_
   refine one_ (i := 20) (N := some 32) zA129 rfl rfl (one_of HT_.out (by kernel_rfl)) (by decide) (fun K hK => ?_)
   refine goes_ Tryz.func98 (by kernel_rfl) rfl #[.agg #[.int .i64 ((rd_T82 l0 (ji10)).f0), .int .i64 ((rd_T82 l0 (ji10)).f1)], .agg #[.int .i64 ((rd_T82 l0 x7_1).f0), .int .i64 ((rd_T82 l0 x7_1).f1)]] (by rfl) rfl rfl (by (try simp only [mA, mB, mC]); first | done | (simp only [hji10]; rfl) | rfl | (simp only [lD, lT]; rfl)) ?_
   with_reducible refine (impl_compareCells.calls ((rd_T82 l0 (ji10)).f0) ((rd_T82 l0 (ji10)).f1) ((rd_T82 l0 x7_1).f0) ((rd_T82 l0 x7_1).f1) t383 _ A13.out).mono ?_
   rintro e w24 ⟨rfl, hb⟩
   refine ⟨_, rfl, ?_⟩
   have _ := aM (blk_below (g := gb379) (o := .cells #[.int .i64 ((rd_T82 l0 x7_1).f0), .int .i64 ((rd_T82 l0 x7_1).f1)] 82 (0, 0)) (mB_ BK379.out) hb)
   have _ := aM (below_step (zs GE379.out) hb)
   clear BK379
   clear HB
   rename_i BK379 HB
   (try clear hb)
   (try clear hb2)
   (try clear hk)
   (try clear hi)
   refine hK.out _ _ ⟨(blk_cell BK379.out 0).trans rfl, (blk_cell BK379.out 1).trans rfl, (zk HB.out hw382_0), (zk HB.out hw382_1)⟩ (fun hHeld => ?_)
   clear hK K
   refine norm_ (a' := ?_) ?_ ?_
   rotate_left
   ·show Act.put _ (some 32) _ = _
    simp only [Act.put, xA, xB, xC, i64_w, i32_w]
    rfl
   refine zP 21 (some 33) zA130 ?_
   refine zP 22 (some 34) zA131 ?_
   refine zP 23 (some 35) zA132 ?_
   refine done_ (done_of HT_.out (by kernel_rfl)) ?_
   try go_wp2
   go_roundg k1
   case measure => have := HK1.out; omega
   case rel => exact ⟨(wrap64 (x7_1 + 1)), zr, H', ⟨by have := HK1.out; omega⟩, ⟨zs GE379.out⟩⟩
end Go.Proofs.YtipafadbhmngnaaGreatDoor.F
end
section
namespace Go.Proofs.YtipafadbhmngnaaGreatDoor.F
open Go.RowKit Go.Proofs.YtipafadbhmngnaaGreatDoorW.PrintWords Go.Proofs.YtipafadbhmngnaaGreatDoorW.PrintLast Go.Proofs.YtipafadbhmngnaaGreatDoorW.PrintMore
attribute [local go_sem] max2_int min2_int max_two min_two max_three min_three max_four min_four
set_option linter.unusedVariables false
set_option linter.unusedSimpArgs false
attribute [local go_sem high] eqA82
def impl_corner.l0 : Nat → List (S82) → Int → Int → Int → Int → Option (Int × Int)
 | 0, _, _, _, _, _ => none
 | k + 1, x9, x10, x11, x387000, x387001 => if x11 < x10 then (if 0 ≤ x11 then (if x11 < (x9.length : Int) then (impl_corner.l0 k x9 x10 (wrap64 (x11 + 1)) (mn x387000 ((rd_T82 x9 x11).f0)) (mn x387001 ((rd_T82 x9 x11).f1))) else (none)) else (none)) else (some (x387000, x387001))
def impl_corner.f (k : Nat) (l0 : List (S82)) : Option (Int × Int) := if 0 < (l0.length : Int) then (impl_corner.l0 k l0 (l0.length : Int) 0 ((rd_T82 l0 0).f0) ((rd_T82 l0 0).f1)) else (none)
theorem impl_corner.calls (k : Nat) (A0 : Option Addr) (c0 : Nat) (l0 : List (S82)) (r1 : Int) (r2 : Int) (w : World) (hr0 : Kd.C k82 w A0 l0.length l0) (hc0 : l0.length ≤ c0) (h : impl_corner.f k l0 = some (r1, r2)) :
  Calls Tryz.prog 73 #[.slice A0 l0.length c0] w fun e w' => e = .returned (.agg #[.int .i64 r1, .int .i64 r2]) ∧ Below w.heap.size w w' := by
 have hu82 := Tryz.underlying82
 have HR0 := aM hr0
 have HC0 := aM hc0
 clear hr0 hc0
 have HB := aM (Below.refl w.heap.size w)
 have H : (if 0 < (l0.length : Int) then (impl_corner.l0 k l0 (l0.length : Int) 0 ((rd_T82 l0 0).f0) ((rd_T82 l0 0).f1)) else (none)) = some (r1, r2) := h
 clear h
 by_cases c2 : 0 < (l0.length : Int)
 rotate_left
 ·rw [if_neg c2] at H
  exact absurd H (by simp)
 rw [if_pos c2] at H
 have c2b0 : decide (0 < (l0.length : Int)) = true := decide_eq_true c2
 have c2b1 : decide (0 < l0.length) = true := decide_eq_true (by omega)
 clear c2
 have H' := aM H
 clear H
 go_enter Tryz.func73, Tryz.ntmps73
 go_wp2_with (first | ((with_reducible refine gate_dst (N := 2) rfl ?_); refine zx 2 #[.int .i64 0, .int .i64 0] 82 ?_; intro gb384 hg w3 hbox hb; have _ := aM (below_step zb hb); have _ := aM (hbox); have _ := aM ((ze : w.heap.size ≤ gb384)); have _ := aM ((ze : w.heap.size ≤ gb384)); clear HB; rename_i HB BK384 GW384 GE384; clear hb hbox hg; have p385 : 0 ≤ (0 : Int) := (by omega); have q385 : 0 < (l0.length : Int) := of_decide_eq_true za; obtain ⟨ad385, e385, hx385_0, hx385_1⟩ := at_T82 HR0.out 0 p385 q385; cases e385; have qi385 : (0 < l0.length) = True := eq_true (by omega); (try rw [show ((0 : Int)).toNat = 0 from rfl] at hx385_0); (try rw [show 0 * 2 = 0 from rfl] at hx385_0); (try rw [Addr.add_zero'] at hx385_0); (try rw [show ((0 : Int)).toNat = 0 from rfl] at hx385_1); (try rw [show 0 * 2 = 0 from rfl] at hx385_1); (try rw [Addr.add_zero'] at hx385_1); replace hx385_0 := zk HB.out hx385_0; replace hx385_1 := zk HB.out hx385_1; replace p385 := eq_true p385; replace q385 := eq_true q385) | ((with_reducible refine gate_dst (N := 3) rfl ?_); refine zx 3 #[.int .i64 0, .int .i64 0] 82 ?_; intro gb386 hg w4 hbox hb; have _ := aM (blk_below (g := gb384) (o := .cells #[.int .i64 0, .int .i64 0] 82 (0, 0)) (mB_ BK384.out) hb); have _ := aM (below_step (zs GE384.out) hb); have _ := aM (hbox); have _ := aM ((zf GE384.out : w.heap.size ≤ gb386)); have _ := aM ((zf GE384.out : w.heap.size ≤ gb386)); have _ := aM ((zl BK384.out : gb384 ≠ gb386)); have _ := aM ((zn BK384.out : gb386 ≠ gb384)); clear BK384 HB; rename_i BK384 HB BK386 GW386 GE386 NB384_386 NB386_384; clear hb hbox hg; have hnb5 := NB386_384.out; have hnc5 := NB384_386.out; obtain ⟨hcz6_0, hcz6_1, hfz6_0, hfz6_1⟩ := zQ2 BK386.out))
 go_loopg [11] k (fun kq v11 w' => ∃ (x11_1 : Int) (x387000_1 : Int) (x387001_1 : Int), v11 = .int .i64 x11_1 ∧ Aside0 (impl_corner.l0 kq l0 (l0.length : Int) x11_1 x387000_1 x387001_1 = some (r1, r2)) ∧ Aside0 (kq ≤ k) ∧ Aside0 (w'.heap[gb384]? = some (.cells #[.int .i64 0, .int .i64 0] 82 (0, 0))) ∧ Aside0 (w'.heap[gb386]? = some (.cells #[.int .i64 x387000_1, .int .i64 x387001_1] 82 (0, 0))) ∧ Aside0 (Below w.heap.size w w'))
 case atStart => exact ⟨(0), ((rd_T82 l0 0).f0), ((rd_T82 l0 0).f1), zr, H', ⟨Nat.le_refl _⟩, ⟨by (with_reducible repeat (first | refine blk_drewN ?_ _ | refine blk_drew ?_ | refine blk_alloc ?_ _)); refine blk_far ?_ NB384_386.out _; (with_reducible repeat (first | refine blk_drewN ?_ _ | refine blk_drew ?_ | refine blk_alloc ?_ _)); refine blk_far ?_ NB384_386.out _; (with_reducible repeat (first | refine blk_drewN ?_ _ | refine blk_drew ?_ | refine blk_alloc ?_ _)); exact BK384.out⟩, ⟨by (with_reducible repeat (first | refine blk_drewN ?_ _ | refine blk_drew ?_ | refine blk_alloc ?_ _)); refine blk_put (cs := #[.int .i64 ((rd_T82 l0 0).f0), .int .i64 0]) ?_ 1 _ rfl; (with_reducible repeat (first | refine blk_drewN ?_ _ | refine blk_drew ?_ | refine blk_alloc ?_ _)); refine blk_put (cs := #[.int .i64 0, .int .i64 0]) ?_ 0 _ rfl; (with_reducible repeat (first | refine blk_drewN ?_ _ | refine blk_drew ?_ | refine blk_alloc ?_ _)); exact BK386.out⟩, ⟨zt GE384.out GE386.out⟩⟩
 case round =>
  clear H'
  try clear c2
  try clear c2b0
  try clear c2b1
  try clear p2
  try clear p3
  try clear q3
  try clear hx3
  try clear qi3
  try clear c5
  try clear hcz6_0
  try clear hcz6_1
  try clear hfz6_0
  try clear hfz6_1
  try clear hx385_0
  try clear hx385_1
  try clear p385
  try clear q385
  obtain ⟨x11_1, x387000_1, x387001_1, rfl, HA, HK1, BK384, BK386, HB⟩ := hrel
  cases gk with
  | zero => exact absurd HA.out (by simp [impl_corner.l0])
  | succ k1 =>
   have H := HA.out
   clear HA
   simp only [impl_corner.l0] at H
   by_cases c7 : x11_1 < (l0.length : Int)
   rotate_left
   ·rw [if_neg c7] at H
    have c7b0 : decide (x11_1 < (l0.length : Int)) = false := decide_eq_false c7
    clear c7
    simp only [Option.some.injEq, Prod.mk.injEq] at H
    obtain ⟨rfl, rfl⟩ := H
    have hnb18 := NB386_384.out
    have hnc18 := NB384_386.out
    obtain ⟨hcz19_0, hcz19_1, hfz19_0, hfz19_1⟩ := zQ2 BK386.out
    obtain ⟨hcz20_0, hcz20_1, hfz20_0, hfz20_1⟩ := zQ2 BK384.out
    go_wp2
    refine bodyPost_ret (results_cell_row rfl _ _ gb384 82 #[.int .i64 x387000_1, .int .i64 x387001_1] (0, 0) _ rfl (by (with_reducible repeat (first | refine blk_drewN ?_ _ | refine blk_drew ?_ | refine blk_alloc ?_ _)); refine blk_put (cs := #[.int .i64 x387000_1, .int .i64 0]) ?_ 1 _ rfl; (with_reducible repeat (first | refine blk_drewN ?_ _ | refine blk_drew ?_ | refine blk_alloc ?_ _)); refine blk_put (cs := #[.int .i64 0, .int .i64 0]) ?_ 0 _ rfl; (with_reducible repeat (first | refine blk_drewN ?_ _ | refine blk_drew ?_ | refine blk_alloc ?_ _)); exact BK384.out) Tryz.underlying82 rfl (by kernel_rfl)) rfl ?_
    exact ⟨zw, zt GE384.out GE386.out⟩
   rw [if_pos c7] at H
   have c7b0 : decide (x11_1 < (l0.length : Int)) = true := decide_eq_true c7
   clear c7
   by_cases c8 : 0 ≤ x11_1
   rotate_left
   ·rw [if_neg c8] at H
    exact absurd H (by simp)
   rw [if_pos c8] at H
   have c8b0 : decide (0 ≤ x11_1) = true := decide_eq_true c8
   clear c8
   by_cases c9 : x11_1 < (l0.length : Int)
   rotate_left
   ·rw [if_neg c9] at H
    exact absurd H (by simp)
   rw [if_pos c9] at H
   have c9b0 : decide (x11_1 < (l0.length : Int)) = true := decide_eq_true c9
   clear c9
   obtain ⟨ji10, hji10⟩ : ∃ j_ : Int, (mn x387000_1 ((rd_T82 l0 x11_1).f0)) = j_ := ⟨_, rfl⟩
   replace H : (impl_corner.l0 k1 l0 (l0.length : Int) (wrap64 (x11_1 + 1)) ji10 (mn x387001_1 ((rd_T82 l0 x11_1).f1))) = some (r1, r2) := by first | (rw [hji10] at H; exact H) | (simp only [hji10] at H ⊢; exact H)
   have hji10_ : (if ((rd_T82 l0 x11_1).f0) < x387000_1 then ((rd_T82 l0 x11_1).f0) else x387000_1) = ji10 := hji10
   obtain ⟨ji11, hji11⟩ : ∃ j_ : Int, (mn x387001_1 ((rd_T82 l0 x11_1).f1)) = j_ := ⟨_, rfl⟩
   replace H : (impl_corner.l0 k1 l0 (l0.length : Int) (wrap64 (x11_1 + 1)) ji10 ji11) = some (r1, r2) := by first | (rw [hji11] at H; exact H) | (simp only [hji11] at H ⊢; exact H)
   have hji11_ : (if ((rd_T82 l0 x11_1).f1) < x387001_1 then ((rd_T82 l0 x11_1).f1) else x387001_1) = ji11 := hji11
   have H' := aM H
   clear H
   have p387 : 0 ≤ (x11_1 : Int) := of_decide_eq_true za
   have q387 : x11_1 < (l0.length : Int) := of_decide_eq_true za
   obtain ⟨ad387, e387, hx387_0, hx387_1⟩ := at_T82 HR0.out x11_1 p387 q387
   obtain rfl : ad385 = ad387 := (by injection e387)
   replace hx387_0 := zk HB.out hx387_0
   replace hx387_1 := zk HB.out hx387_1
   replace p387 := eq_true p387
   replace q387 := eq_true q387
   go_wp2_with (first | ((with_reducible refine gate_dst (N := 5) rfl ?_); refine zx 5 #[.int .i64 0, .int .i64 0] 82 ?_; intro gb388 hg w12 hbox hb; have _ := aM (blk_below (g := gb384) (o := .cells #[.int .i64 0, .int .i64 0] 82 (0, 0)) (mB_ BK384.out) hb); have _ := aM (blk_below (g := gb386) (o := .cells #[.int .i64 x387000_1, .int .i64 x387001_1] 82 (0, 0)) (mB_ BK386.out) hb); have _ := aM (below_step (zt GE384.out GE386.out) hb); have _ := aM (hbox); have _ := aM ((by rw [hg]; exact (below_size (zt GE384.out GE386.out)) : w.heap.size ≤ gb388)); have _ := aM ((by rw [hg]; exact (below_size (zt GE384.out GE386.out)) : w.heap.size ≤ gb388)); have _ := aM ((zl BK384.out : gb384 ≠ gb388)); have _ := aM ((zn BK384.out : gb388 ≠ gb384)); have _ := aM ((zl BK386.out : gb386 ≠ gb388)); have _ := aM ((zn BK386.out : gb388 ≠ gb386)); clear BK384 BK386 HB; rename_i BK384 BK386 HB BK388 GW388 GE388 NB384_388 NB388_384 NB386_388 NB388_386; clear hb hbox hg; have hnb13 := NB388_384.out; have hnc13 := NB384_388.out; have hnb14 := NB388_386.out; have hnc14 := NB386_388.out; obtain ⟨hcz15_0, hcz15_1, hfz15_0, hfz15_1⟩ := zQ2 BK388.out; have hnb16 := NB386_384.out; have hnc16 := NB384_386.out; obtain ⟨hcz17_0, hcz17_1, hfz17_0, hfz17_1⟩ := zQ2 BK386.out))
   go_roundg k1
   case measure => have := HK1.out; omega
   case rel => exact ⟨(wrap64 (x11_1 + 1)), (ji10), (ji11), zr, H', ⟨by have := HK1.out; omega⟩, ⟨by (with_reducible repeat (first | refine blk_drewN ?_ _ | refine blk_drew ?_ | refine blk_alloc ?_ _)); refine blk_far ?_ NB384_386.out _; (with_reducible repeat (first | refine blk_drewN ?_ _ | refine blk_drew ?_ | refine blk_alloc ?_ _)); refine blk_far ?_ NB384_386.out _; (with_reducible repeat (first | refine blk_drewN ?_ _ | refine blk_drew ?_ | refine blk_alloc ?_ _)); refine blk_far ?_ NB384_388.out _; (with_reducible repeat (first | refine blk_drewN ?_ _ | refine blk_drew ?_ | refine blk_alloc ?_ _)); refine blk_far ?_ NB384_388.out _; (with_reducible repeat (first | refine blk_drewN ?_ _ | refine blk_drew ?_ | refine blk_alloc ?_ _)); exact BK384.out⟩, ⟨by (with_reducible repeat (first | refine blk_drewN ?_ _ | refine blk_drew ?_ | refine blk_alloc ?_ _)); refine blk_put (cs := #[.int .i64 ji10, .int .i64 x387001_1]) ?_ 1 _ rfl; (with_reducible repeat (first | refine blk_drewN ?_ _ | refine blk_drew ?_ | refine blk_alloc ?_ _)); refine blk_put (cs := #[.int .i64 x387000_1, .int .i64 x387001_1]) ?_ 0 _ rfl; (with_reducible repeat (first | refine blk_drewN ?_ _ | refine blk_drew ?_ | refine blk_alloc ?_ _)); refine blk_far ?_ NB386_388.out _; (with_reducible repeat (first | refine blk_drewN ?_ _ | refine blk_drew ?_ | refine blk_alloc ?_ _)); refine blk_far ?_ NB386_388.out _; (with_reducible repeat (first | refine blk_drewN ?_ _ | refine blk_drew ?_ | refine blk_alloc ?_ _)); exact BK386.out⟩, ⟨by repeat (first | (with_reducible first | exact HB.out | apply below_alloc | apply pw_below_drewN | apply below_drew1 | refine below_set ?_ GE384.out | refine below_set ?_ GE386.out | refine below_set ?_ GE388.out) | exact HB.out)⟩⟩
def impl_reach.l0 : Nat → List (S82) → Int → Int → Int → Int → Option (Int × Int)
 | 0, _, _, _, _, _ => none
 | k + 1, x9, x10, x11, x392000, x392001 => if x11 < x10 then (if 0 ≤ x11 then (if x11 < (x9.length : Int) then (impl_reach.l0 k x9 x10 (wrap64 (x11 + 1)) (mx x392000 ((rd_T82 x9 x11).f0)) (mx x392001 ((rd_T82 x9 x11).f1))) else (none)) else (none)) else (some (x392000, x392001))
def impl_reach.f (k : Nat) (l0 : List (S82)) : Option (Int × Int) := if 0 < (l0.length : Int) then (impl_reach.l0 k l0 (l0.length : Int) 0 ((rd_T82 l0 0).f0) ((rd_T82 l0 0).f1)) else (none)
theorem impl_reach.calls (k : Nat) (A0 : Option Addr) (c0 : Nat) (l0 : List (S82)) (r1 : Int) (r2 : Int) (w : World) (hr0 : Kd.C k82 w A0 l0.length l0) (hc0 : l0.length ≤ c0) (h : impl_reach.f k l0 = some (r1, r2)) :
  Calls Tryz.prog 74 #[.slice A0 l0.length c0] w fun e w' => e = .returned (.agg #[.int .i64 r1, .int .i64 r2]) ∧ Below w.heap.size w w' := by
 have hu82 := Tryz.underlying82
 have HR0 := aM hr0
 have HC0 := aM hc0
 clear hr0 hc0
 have HB := aM (Below.refl w.heap.size w)
 have H : (if 0 < (l0.length : Int) then (impl_reach.l0 k l0 (l0.length : Int) 0 ((rd_T82 l0 0).f0) ((rd_T82 l0 0).f1)) else (none)) = some (r1, r2) := h
 clear h
 by_cases c2 : 0 < (l0.length : Int)
 rotate_left
 ·rw [if_neg c2] at H
  exact absurd H (by simp)
 rw [if_pos c2] at H
 have c2b0 : decide (0 < (l0.length : Int)) = true := decide_eq_true c2
 have c2b1 : decide (0 < l0.length) = true := decide_eq_true (by omega)
 clear c2
 have H' := aM H
 clear H
 go_enter Tryz.func74, Tryz.ntmps74
 go_wp2_with (first | ((with_reducible refine gate_dst (N := 2) rfl ?_); refine zx 2 #[.int .i64 0, .int .i64 0] 82 ?_; intro gb389 hg w3 hbox hb; have _ := aM (below_step zb hb); have _ := aM (hbox); have _ := aM ((ze : w.heap.size ≤ gb389)); have _ := aM ((ze : w.heap.size ≤ gb389)); clear HB; rename_i HB BK389 GW389 GE389; clear hb hbox hg; have p390 : 0 ≤ (0 : Int) := (by omega); have q390 : 0 < (l0.length : Int) := of_decide_eq_true za; obtain ⟨ad390, e390, hx390_0, hx390_1⟩ := at_T82 HR0.out 0 p390 q390; cases e390; have qi390 : (0 < l0.length) = True := eq_true (by omega); (try rw [show ((0 : Int)).toNat = 0 from rfl] at hx390_0); (try rw [show 0 * 2 = 0 from rfl] at hx390_0); (try rw [Addr.add_zero'] at hx390_0); (try rw [show ((0 : Int)).toNat = 0 from rfl] at hx390_1); (try rw [show 0 * 2 = 0 from rfl] at hx390_1); (try rw [Addr.add_zero'] at hx390_1); replace hx390_0 := zk HB.out hx390_0; replace hx390_1 := zk HB.out hx390_1; replace p390 := eq_true p390; replace q390 := eq_true q390) | ((with_reducible refine gate_dst (N := 3) rfl ?_); refine zx 3 #[.int .i64 0, .int .i64 0] 82 ?_; intro gb391 hg w4 hbox hb; have _ := aM (blk_below (g := gb389) (o := .cells #[.int .i64 0, .int .i64 0] 82 (0, 0)) (mB_ BK389.out) hb); have _ := aM (below_step (zs GE389.out) hb); have _ := aM (hbox); have _ := aM ((zf GE389.out : w.heap.size ≤ gb391)); have _ := aM ((zf GE389.out : w.heap.size ≤ gb391)); have _ := aM ((zl BK389.out : gb389 ≠ gb391)); have _ := aM ((zn BK389.out : gb391 ≠ gb389)); clear BK389 HB; rename_i BK389 HB BK391 GW391 GE391 NB389_391 NB391_389; clear hb hbox hg; have hnb5 := NB391_389.out; have hnc5 := NB389_391.out; obtain ⟨hcz6_0, hcz6_1, hfz6_0, hfz6_1⟩ := zQ2 BK391.out))
 go_loopg [11] k (fun kq v11 w' => ∃ (x11_1 : Int) (x392000_1 : Int) (x392001_1 : Int), v11 = .int .i64 x11_1 ∧ Aside0 (impl_reach.l0 kq l0 (l0.length : Int) x11_1 x392000_1 x392001_1 = some (r1, r2)) ∧ Aside0 (kq ≤ k) ∧ Aside0 (w'.heap[gb389]? = some (.cells #[.int .i64 0, .int .i64 0] 82 (0, 0))) ∧ Aside0 (w'.heap[gb391]? = some (.cells #[.int .i64 x392000_1, .int .i64 x392001_1] 82 (0, 0))) ∧ Aside0 (Below w.heap.size w w'))
 case atStart => exact ⟨(0), ((rd_T82 l0 0).f0), ((rd_T82 l0 0).f1), zr, H', ⟨Nat.le_refl _⟩, ⟨by (with_reducible repeat (first | refine blk_drewN ?_ _ | refine blk_drew ?_ | refine blk_alloc ?_ _)); refine blk_far ?_ NB389_391.out _; (with_reducible repeat (first | refine blk_drewN ?_ _ | refine blk_drew ?_ | refine blk_alloc ?_ _)); refine blk_far ?_ NB389_391.out _; (with_reducible repeat (first | refine blk_drewN ?_ _ | refine blk_drew ?_ | refine blk_alloc ?_ _)); exact BK389.out⟩, ⟨by (with_reducible repeat (first | refine blk_drewN ?_ _ | refine blk_drew ?_ | refine blk_alloc ?_ _)); refine blk_put (cs := #[.int .i64 ((rd_T82 l0 0).f0), .int .i64 0]) ?_ 1 _ rfl; (with_reducible repeat (first | refine blk_drewN ?_ _ | refine blk_drew ?_ | refine blk_alloc ?_ _)); refine blk_put (cs := #[.int .i64 0, .int .i64 0]) ?_ 0 _ rfl; (with_reducible repeat (first | refine blk_drewN ?_ _ | refine blk_drew ?_ | refine blk_alloc ?_ _)); exact BK391.out⟩, ⟨zt GE389.out GE391.out⟩⟩
 case round =>
  clear H'
  try clear c2
  try clear c2b0
  try clear c2b1
  try clear p2
  try clear p3
  try clear q3
  try clear hx3
  try clear qi3
  try clear c5
  try clear hcz6_0
  try clear hcz6_1
  try clear hfz6_0
  try clear hfz6_1
  try clear hx390_0
  try clear hx390_1
  try clear p390
  try clear q390
  obtain ⟨x11_1, x392000_1, x392001_1, rfl, HA, HK1, BK389, BK391, HB⟩ := hrel
  cases gk with
  | zero => exact absurd HA.out (by simp [impl_reach.l0])
  | succ k1 =>
   have H := HA.out
   clear HA
   simp only [impl_reach.l0] at H
   by_cases c7 : x11_1 < (l0.length : Int)
   rotate_left
   ·rw [if_neg c7] at H
    have c7b0 : decide (x11_1 < (l0.length : Int)) = false := decide_eq_false c7
    clear c7
    simp only [Option.some.injEq, Prod.mk.injEq] at H
    obtain ⟨rfl, rfl⟩ := H
    have hnb18 := NB391_389.out
    have hnc18 := NB389_391.out
    obtain ⟨hcz19_0, hcz19_1, hfz19_0, hfz19_1⟩ := zQ2 BK391.out
    obtain ⟨hcz20_0, hcz20_1, hfz20_0, hfz20_1⟩ := zQ2 BK389.out
    go_wp2
    refine bodyPost_ret (results_cell_row rfl _ _ gb389 82 #[.int .i64 x392000_1, .int .i64 x392001_1] (0, 0) _ rfl (by (with_reducible repeat (first | refine blk_drewN ?_ _ | refine blk_drew ?_ | refine blk_alloc ?_ _)); refine blk_put (cs := #[.int .i64 x392000_1, .int .i64 0]) ?_ 1 _ rfl; (with_reducible repeat (first | refine blk_drewN ?_ _ | refine blk_drew ?_ | refine blk_alloc ?_ _)); refine blk_put (cs := #[.int .i64 0, .int .i64 0]) ?_ 0 _ rfl; (with_reducible repeat (first | refine blk_drewN ?_ _ | refine blk_drew ?_ | refine blk_alloc ?_ _)); exact BK389.out) Tryz.underlying82 rfl (by kernel_rfl)) rfl ?_
    exact ⟨zw, zt GE389.out GE391.out⟩
   rw [if_pos c7] at H
   have c7b0 : decide (x11_1 < (l0.length : Int)) = true := decide_eq_true c7
   clear c7
   by_cases c8 : 0 ≤ x11_1
   rotate_left
   ·rw [if_neg c8] at H
    exact absurd H (by simp)
   rw [if_pos c8] at H
   have c8b0 : decide (0 ≤ x11_1) = true := decide_eq_true c8
   clear c8
   by_cases c9 : x11_1 < (l0.length : Int)
   rotate_left
   ·rw [if_neg c9] at H
    exact absurd H (by simp)
   rw [if_pos c9] at H
   have c9b0 : decide (x11_1 < (l0.length : Int)) = true := decide_eq_true c9
   clear c9
   obtain ⟨ji10, hji10⟩ : ∃ j_ : Int, (mx x392000_1 ((rd_T82 l0 x11_1).f0)) = j_ := ⟨_, rfl⟩
   replace H : (impl_reach.l0 k1 l0 (l0.length : Int) (wrap64 (x11_1 + 1)) ji10 (mx x392001_1 ((rd_T82 l0 x11_1).f1))) = some (r1, r2) := by first | (rw [hji10] at H; exact H) | (simp only [hji10] at H ⊢; exact H)
   have hji10_ : (if x392000_1 < ((rd_T82 l0 x11_1).f0) then ((rd_T82 l0 x11_1).f0) else x392000_1) = ji10 := hji10
   obtain ⟨ji11, hji11⟩ : ∃ j_ : Int, (mx x392001_1 ((rd_T82 l0 x11_1).f1)) = j_ := ⟨_, rfl⟩
   replace H : (impl_reach.l0 k1 l0 (l0.length : Int) (wrap64 (x11_1 + 1)) ji10 ji11) = some (r1, r2) := by first | (rw [hji11] at H; exact H) | (simp only [hji11] at H ⊢; exact H)
   have hji11_ : (if x392001_1 < ((rd_T82 l0 x11_1).f1) then ((rd_T82 l0 x11_1).f1) else x392001_1) = ji11 := hji11
   have H' := aM H
   clear H
   have p392 : 0 ≤ (x11_1 : Int) := of_decide_eq_true za
   have q392 : x11_1 < (l0.length : Int) := of_decide_eq_true za
   obtain ⟨ad392, e392, hx392_0, hx392_1⟩ := at_T82 HR0.out x11_1 p392 q392
   obtain rfl : ad390 = ad392 := (by injection e392)
   replace hx392_0 := zk HB.out hx392_0
   replace hx392_1 := zk HB.out hx392_1
   replace p392 := eq_true p392
   replace q392 := eq_true q392
   go_wp2_with (first | ((with_reducible refine gate_dst (N := 5) rfl ?_); refine zx 5 #[.int .i64 0, .int .i64 0] 82 ?_; intro gb393 hg w12 hbox hb; have _ := aM (blk_below (g := gb389) (o := .cells #[.int .i64 0, .int .i64 0] 82 (0, 0)) (mB_ BK389.out) hb); have _ := aM (blk_below (g := gb391) (o := .cells #[.int .i64 x392000_1, .int .i64 x392001_1] 82 (0, 0)) (mB_ BK391.out) hb); have _ := aM (below_step (zt GE389.out GE391.out) hb); have _ := aM (hbox); have _ := aM ((by rw [hg]; exact (below_size (zt GE389.out GE391.out)) : w.heap.size ≤ gb393)); have _ := aM ((by rw [hg]; exact (below_size (zt GE389.out GE391.out)) : w.heap.size ≤ gb393)); have _ := aM ((zl BK389.out : gb389 ≠ gb393)); have _ := aM ((zn BK389.out : gb393 ≠ gb389)); have _ := aM ((zl BK391.out : gb391 ≠ gb393)); have _ := aM ((zn BK391.out : gb393 ≠ gb391)); clear BK389 BK391 HB; rename_i BK389 BK391 HB BK393 GW393 GE393 NB389_393 NB393_389 NB391_393 NB393_391; clear hb hbox hg; have hnb13 := NB393_389.out; have hnc13 := NB389_393.out; have hnb14 := NB393_391.out; have hnc14 := NB391_393.out; obtain ⟨hcz15_0, hcz15_1, hfz15_0, hfz15_1⟩ := zQ2 BK393.out; have hnb16 := NB391_389.out; have hnc16 := NB389_391.out; obtain ⟨hcz17_0, hcz17_1, hfz17_0, hfz17_1⟩ := zQ2 BK391.out))
   go_roundg k1
   case measure => have := HK1.out; omega
   case rel => exact ⟨(wrap64 (x11_1 + 1)), (ji10), (ji11), zr, H', ⟨by have := HK1.out; omega⟩, ⟨by (with_reducible repeat (first | refine blk_drewN ?_ _ | refine blk_drew ?_ | refine blk_alloc ?_ _)); refine blk_far ?_ NB389_391.out _; (with_reducible repeat (first | refine blk_drewN ?_ _ | refine blk_drew ?_ | refine blk_alloc ?_ _)); refine blk_far ?_ NB389_391.out _; (with_reducible repeat (first | refine blk_drewN ?_ _ | refine blk_drew ?_ | refine blk_alloc ?_ _)); refine blk_far ?_ NB389_393.out _; (with_reducible repeat (first | refine blk_drewN ?_ _ | refine blk_drew ?_ | refine blk_alloc ?_ _)); refine blk_far ?_ NB389_393.out _; (with_reducible repeat (first | refine blk_drewN ?_ _ | refine blk_drew ?_ | refine blk_alloc ?_ _)); exact BK389.out⟩, ⟨by (with_reducible repeat (first | refine blk_drewN ?_ _ | refine blk_drew ?_ | refine blk_alloc ?_ _)); refine blk_put (cs := #[.int .i64 ji10, .int .i64 x392001_1]) ?_ 1 _ rfl; (with_reducible repeat (first | refine blk_drewN ?_ _ | refine blk_drew ?_ | refine blk_alloc ?_ _)); refine blk_put (cs := #[.int .i64 x392000_1, .int .i64 x392001_1]) ?_ 0 _ rfl; (with_reducible repeat (first | refine blk_drewN ?_ _ | refine blk_drew ?_ | refine blk_alloc ?_ _)); refine blk_far ?_ NB391_393.out _; (with_reducible repeat (first | refine blk_drewN ?_ _ | refine blk_drew ?_ | refine blk_alloc ?_ _)); refine blk_far ?_ NB391_393.out _; (with_reducible repeat (first | refine blk_drewN ?_ _ | refine blk_drew ?_ | refine blk_alloc ?_ _)); exact BK391.out⟩, ⟨by repeat (first | (with_reducible first | exact HB.out | apply below_alloc | apply pw_below_drewN | apply below_drew1 | refine below_set ?_ GE389.out | refine below_set ?_ GE391.out | refine below_set ?_ GE393.out) | exact HB.out)⟩⟩
def impl_IsRegion.f (k : Nat) (l0 : List (S82)) : Option (Bool) := (impl_IsShape.f k l0).bind fun t394 => (if t394 = true then ((impl_corner.f k l0).bind fun bt395 => (if (!(bt395.1 == 0) || (!(bt395.2 == 0))) = true then (some false) else ((impl_reach.f k l0).bind fun bt397 => (if bt397.1 < 20 then (some (decide (bt397.2 < 20))) else (some false))))) else (some false))
theorem impl_IsRegion.calls (k : Nat) (A0 : Option Addr) (c0 : Nat) (l0 : List (S82)) (r : Bool) (w : World) (hr0 : Kd.C k82 w A0 l0.length l0) (hc0 : l0.length ≤ c0) (h : impl_IsRegion.f k l0 = some r) :
  Calls Tryz.prog 49 #[.slice A0 l0.length c0] w fun e w' => e = .returned (.bool r) ∧ Below w.heap.size w w' := by
 have hu82 := Tryz.underlying82
 have HR0 := aM hr0
 have HC0 := aM hc0
 clear hr0 hc0
 have HB := aM (Below.refl w.heap.size w)
 have H : ((impl_IsShape.f k l0).bind fun t394 => (if t394 = true then ((impl_corner.f k l0).bind fun bt395 => (if (!(bt395.1 == 0) || (!(bt395.2 == 0))) = true then (some false) else ((impl_reach.f k l0).bind fun bt397 => (if bt397.1 < 20 then (some (decide (bt397.2 < 20))) else (some false))))) else (some false))) = some r := h
 clear h
 replace H := Option.bind_eq_some_iff.mp H
 obtain ⟨t394, A20, H⟩ := H
 replace H : (if t394 = true then ((impl_corner.f k l0).bind fun bt395 => (if (!(bt395.1 == 0) || (!(bt395.2 == 0))) = true then (some false) else ((impl_reach.f k l0).bind fun bt397 => (if bt397.1 < 20 then (some (decide (bt397.2 < 20))) else (some false))))) else (some false)) = some r := H
 have A2 := aM A20
 clear A20
 by_cases c3 : t394 = true
 rotate_left
 ·replace c3 := Bool.eq_false_iff.mpr c3
  subst c3
  have H1 : (some false) = some r := by rw [if_neg (show ¬ (false = true) by decide)] at H; exact H
  clear H
  have H := H1
  clear H1
  obtain rfl := Option.some.inj H
  go_enter Tryz.func49, Tryz.ntmps49
  go_wp2_with (first | ((with_reducible refine gate_callee (f := 68) rfl ?_); refine goesL_ (some 5) rfl rfl Tryz.func68 (by kernel_rfl) rfl #[.slice A0 l0.length c0] rfl zm ?_; (with_reducible refine (impl_IsShape.calls k _ _ l0 false _ ?side1 ?side2 A2.out).mono ?_); (case side1 => repeat (first | exact HR0.out | (with_reducible refine Kd.C_alloc ?_ _) | (with_reducible refine Kd.C_drewN ?_ _) | (with_reducible refine Kd.C_drew ?_))); (case side2 => exact HC0.out); rintro e w20 ⟨rfl, hb⟩; refine ⟨_, rfl, ?_⟩; have _ := aM (below_step zb hb); clear HB; rename_i HB; (try clear hb); (try clear hb2); (try clear hk); (try clear hi)))
  go_ret
  exact ⟨zw, zb⟩
 subst c3
 have H1 : ((impl_corner.f k l0).bind fun bt395 => (if (!(bt395.1 == 0) || (!(bt395.2 == 0))) = true then (some false) else ((impl_reach.f k l0).bind fun bt397 => (if bt397.1 < 20 then (some (decide (bt397.2 < 20))) else (some false))))) = some r := by rw [if_pos rfl] at H; exact H
 clear H
 have H := H1
 clear H1
 replace H := Option.bind_eq_some_iff.mp H
 obtain ⟨⟨t395, t396⟩, A40, H⟩ := H
 replace H : (if (!(t395 == 0) || (!(t396 == 0))) = true then (some false) else ((impl_reach.f k l0).bind fun bt397 => (if bt397.1 < 20 then (some (decide (bt397.2 < 20))) else (some false)))) = some r := H
 have A4 := aM A40
 clear A40
 by_cases c5 : (!(t395 == 0) || (!(t396 == 0))) = true
 ·rw [if_pos c5] at H
  have c5b0 : (!(t395 == 0) || (!(t396 == 0))) = true := c5
  clear c5
  obtain rfl := Option.some.inj H
  go_enter Tryz.func49, Tryz.ntmps49
  go_wp2_with (first | ((with_reducible refine gate_callee (f := 68) rfl ?_); refine goesL_ (some 5) rfl rfl Tryz.func68 (by kernel_rfl) rfl #[.slice A0 l0.length c0] rfl zm ?_; (with_reducible refine (impl_IsShape.calls k _ _ l0 true _ ?side1 ?side2 A2.out).mono ?_); (case side1 => repeat (first | exact HR0.out | (with_reducible refine Kd.C_alloc ?_ _) | (with_reducible refine Kd.C_drewN ?_ _) | (with_reducible refine Kd.C_drew ?_))); (case side2 => exact HC0.out); rintro e w6 ⟨rfl, hb⟩; refine ⟨_, rfl, ?_⟩; have _ := aM (below_step zb hb); clear HB; rename_i HB; (try clear hb); (try clear hb2); (try clear hk); (try clear hi)) | (go_at_call 73; (with_reducible refine (impl_corner.calls k _ _ l0 t395 t396 _ ?side1 ?side2 A4.out).mono ?_); (case side1 => repeat (first | exact (Kd.C_below HR0.out HB.out) | (with_reducible refine Kd.C_alloc ?_ _) | (with_reducible refine Kd.C_drewN ?_ _) | (with_reducible refine Kd.C_drew ?_))); (case side2 => exact HC0.out); rintro e w7 ⟨rfl, hb⟩; have _ := aM (below_step zb hb); clear HB; rename_i HB; (try clear hb); (try clear hb2); (try clear hk); (try clear hi)))
  go_ret
  exact ⟨zw, zb⟩
 rw [if_neg c5] at H
 have c5b0 : (!(t395 == 0) || (!(t396 == 0))) = false := by simpa using c5
 clear c5
 replace H := Option.bind_eq_some_iff.mp H
 obtain ⟨⟨t397, t398⟩, A80, H⟩ := H
 replace H : (if t397 < 20 then (some (decide (t398 < 20))) else (some false)) = some r := H
 have A8 := aM A80
 clear A80
 by_cases c9 : t397 < 20
 ·rw [if_pos c9] at H
  have c9b0 : decide (t397 < 20) = true := decide_eq_true c9
  clear c9
  obtain rfl := Option.some.inj H
  go_enter Tryz.func49, Tryz.ntmps49
  go_wp2_with (first | ((with_reducible refine gate_callee (f := 68) rfl ?_); refine goesL_ (some 5) rfl rfl Tryz.func68 (by kernel_rfl) rfl #[.slice A0 l0.length c0] rfl zm ?_; (with_reducible refine (impl_IsShape.calls k _ _ l0 true _ ?side1 ?side2 A2.out).mono ?_); (case side1 => repeat (first | exact HR0.out | (with_reducible refine Kd.C_alloc ?_ _) | (with_reducible refine Kd.C_drewN ?_ _) | (with_reducible refine Kd.C_drew ?_))); (case side2 => exact HC0.out); rintro e w10 ⟨rfl, hb⟩; refine ⟨_, rfl, ?_⟩; have _ := aM (below_step zb hb); clear HB; rename_i HB; (try clear hb); (try clear hb2); (try clear hk); (try clear hi)) | (go_at_call 73; (with_reducible refine (impl_corner.calls k _ _ l0 t395 t396 _ ?side1 ?side2 A4.out).mono ?_); (case side1 => repeat (first | exact (Kd.C_below HR0.out HB.out) | (with_reducible refine Kd.C_alloc ?_ _) | (with_reducible refine Kd.C_drewN ?_ _) | (with_reducible refine Kd.C_drew ?_))); (case side2 => exact HC0.out); rintro e w11 ⟨rfl, hb⟩; have _ := aM (below_step zb hb); clear HB; rename_i HB; (try clear hb); (try clear hb2); (try clear hk); (try clear hi)) | ((with_reducible refine gate_callee (f := 74) rfl ?_); refine goesL_ (some 14) rfl rfl Tryz.func74 (by kernel_rfl) rfl #[.slice A0 l0.length c0] rfl zm ?_; (with_reducible refine (impl_reach.calls k _ _ l0 t397 t398 _ ?side1 ?side2 A8.out).mono ?_); (case side1 => repeat (first | exact (Kd.C_below HR0.out HB.out) | (with_reducible refine Kd.C_alloc ?_ _) | (with_reducible refine Kd.C_drewN ?_ _) | (with_reducible refine Kd.C_drew ?_))); (case side2 => exact HC0.out); rintro e w12 ⟨rfl, hb⟩; refine ⟨_, rfl, ?_⟩; have _ := aM (below_step zb hb); clear HB; rename_i HB; (try clear hb); (try clear hb2); (try clear hk); (try clear hi)) | ((with_reducible refine gate_dst (N := 3) rfl ?_); refine zx 3 #[.int .i64 0, .int .i64 0] 82 ?_; intro gb399 hg w13 hbox hb; have _ := aM (below_step zb hb); have _ := aM (hbox); have _ := aM ((ze : w.heap.size ≤ gb399)); have _ := aM ((ze : w.heap.size ≤ gb399)); clear HB; rename_i HB BK399 GW399 GE399; clear hb hbox hg; obtain ⟨hcz14_0, hcz14_1, hfz14_0, hfz14_1⟩ := zQ2 BK399.out))
  go_ret
  exact ⟨zw, zs GE399.out⟩
 rw [if_neg c9] at H
 have c9b0 : decide (t397 < 20) = false := decide_eq_false c9
 clear c9
 obtain rfl := Option.some.inj H
 go_enter Tryz.func49, Tryz.ntmps49
 go_wp2_with (first | ((with_reducible refine gate_callee (f := 68) rfl ?_); refine goesL_ (some 5) rfl rfl Tryz.func68 (by kernel_rfl) rfl #[.slice A0 l0.length c0] rfl zm ?_; (with_reducible refine (impl_IsShape.calls k _ _ l0 true _ ?side1 ?side2 A2.out).mono ?_); (case side1 => repeat (first | exact HR0.out | (with_reducible refine Kd.C_alloc ?_ _) | (with_reducible refine Kd.C_drewN ?_ _) | (with_reducible refine Kd.C_drew ?_))); (case side2 => exact HC0.out); rintro e w15 ⟨rfl, hb⟩; refine ⟨_, rfl, ?_⟩; have _ := aM (below_step zb hb); clear HB; rename_i HB; (try clear hb); (try clear hb2); (try clear hk); (try clear hi)) | (go_at_call 73; (with_reducible refine (impl_corner.calls k _ _ l0 t395 t396 _ ?side1 ?side2 A4.out).mono ?_); (case side1 => repeat (first | exact (Kd.C_below HR0.out HB.out) | (with_reducible refine Kd.C_alloc ?_ _) | (with_reducible refine Kd.C_drewN ?_ _) | (with_reducible refine Kd.C_drew ?_))); (case side2 => exact HC0.out); rintro e w16 ⟨rfl, hb⟩; have _ := aM (below_step zb hb); clear HB; rename_i HB; (try clear hb); (try clear hb2); (try clear hk); (try clear hi)) | ((with_reducible refine gate_callee (f := 74) rfl ?_); refine goesL_ (some 14) rfl rfl Tryz.func74 (by kernel_rfl) rfl #[.slice A0 l0.length c0] rfl zm ?_; (with_reducible refine (impl_reach.calls k _ _ l0 t397 t398 _ ?side1 ?side2 A8.out).mono ?_); (case side1 => repeat (first | exact (Kd.C_below HR0.out HB.out) | (with_reducible refine Kd.C_alloc ?_ _) | (with_reducible refine Kd.C_drewN ?_ _) | (with_reducible refine Kd.C_drew ?_))); (case side2 => exact HC0.out); rintro e w17 ⟨rfl, hb⟩; refine ⟨_, rfl, ?_⟩; have _ := aM (below_step zb hb); clear HB; rename_i HB; (try clear hb); (try clear hb2); (try clear hk); (try clear hi)) | ((with_reducible refine gate_dst (N := 3) rfl ?_); refine zx 3 #[.int .i64 0, .int .i64 0] 82 ?_; intro gb399 hg w18 hbox hb; have _ := aM (below_step zb hb); have _ := aM (hbox); have _ := aM ((ze : w.heap.size ≤ gb399)); have _ := aM ((ze : w.heap.size ≤ gb399)); clear HB; rename_i HB BK399 GW399 GE399; clear hb hbox hg; obtain ⟨hcz19_0, hcz19_1, hfz19_0, hfz19_1⟩ := zQ2 BK399.out))
 go_ret
 exact ⟨zw, zs GE399.out⟩
def slices_Max_int64_int64.l0 : Nat → List Int → Int → Int → Option (Int)
 | 0, _, _, _ => none
 | k + 1, x0, x3, x4 => if x4 < (x0.length : Int) then (if 0 ≤ x4 then (slices_Max_int64_int64.l0 k x0 (mx x3 (rd x0 x4)) (wrap64 (x4 + 1))) else (none)) else (some x3)
def slices_Max_int64_int64.f (k : Nat) (l0 : List Int) : Option (Int) := if (l0.length : Int) < 1 then (none) else (if 0 < (l0.length : Int) then (slices_Max_int64_int64.l0 k l0 (rd l0 0) 1) else (none))
theorem slices_Max_int64_int64.calls (k : Nat) (A0 : Option Addr) (c0 : Nat) (l0 : List Int) (r : Int) (w : World) (hr0 : Kd.C (Kd.int .i64) w A0 l0.length l0) (hc0 : l0.length ≤ c0) (h : slices_Max_int64_int64.f k l0 = some r) :
  Calls Tryz.prog 110 #[.slice A0 l0.length c0] w fun e w' => e = .returned (.int .i64 r) ∧ Below w.heap.size w w' := by
 have HR0 := aM hr0
 have HC0 := aM hc0
 clear hr0 hc0
 have HB := aM (Below.refl w.heap.size w)
 have H : (if (l0.length : Int) < 1 then (none) else (if 0 < (l0.length : Int) then (slices_Max_int64_int64.l0 k l0 (rd l0 0) 1) else (none))) = some r := h
 clear h
 by_cases c2 : (l0.length : Int) < 1
 ·rw [if_pos c2] at H
  exact absurd H (by simp)
 rw [if_neg c2] at H
 have c2b0 : decide ((l0.length : Int) < 1) = false := decide_eq_false c2
 have c2b1 : decide (l0.length < 1) = false := decide_eq_false (by omega)
 clear c2
 by_cases c3 : 0 < (l0.length : Int)
 rotate_left
 ·rw [if_neg c3] at H
  exact absurd H (by simp)
 rw [if_pos c3] at H
 have c3b0 : decide (0 < (l0.length : Int)) = true := decide_eq_true c3
 have c3b1 : decide (0 < l0.length) = true := decide_eq_true (by omega)
 clear c3
 have H' := aM H
 clear H
 have p400 : 0 ≤ (0 : Int) := (by omega)
 have q400 : 0 < (l0.length : Int) := of_decide_eq_true za
 obtain ⟨ad400, e400, hx400_0⟩ := Kd.at_int HR0.out 0 p400 q400
 cases e400
 have qi400 : (0 < l0.length) = True := eq_true (by omega)
 (try rw [show ((0 : Int)).toNat = 0 from rfl] at hx400_0)
 (try rw [Addr.add_zero'] at hx400_0)
 replace p400 := eq_true p400
 replace q400 := eq_true q400
 go_enter Tryz.func110, Tryz.ntmps110
 go_wp2
 go_loopg [3, 4] k (fun kq v3 v4 w' => ∃ (x3_1 : Int) (x4_1 : Int), v3 = .int .i64 x3_1 ∧ v4 = .int .i64 x4_1 ∧ Aside0 (slices_Max_int64_int64.l0 kq l0 x3_1 x4_1 = some r) ∧ Aside0 (kq ≤ k) ∧ Aside0 (Below w.heap.size w w'))
 case atStart => exact ⟨(rd l0 0), (1), zr, zr, H', ⟨Nat.le_refl _⟩, ⟨zb⟩⟩
 case round =>
  clear H'
  try clear c1
  try clear c2
  try clear c2b0
  try clear c2b1
  try clear p2
  try clear c3
  try clear c3b0
  try clear c3b1
  try clear hx400_0
  try clear p400
  try clear q400
  obtain ⟨x3_1, x4_1, rfl, rfl, HA, HK1, HB⟩ := hrel
  cases gk with
  | zero => exact absurd HA.out (by simp [slices_Max_int64_int64.l0])
  | succ k1 =>
   have H := HA.out
   clear HA
   simp only [slices_Max_int64_int64.l0] at H
   by_cases c4 : x4_1 < (l0.length : Int)
   rotate_left
   ·rw [if_neg c4] at H
    have c4b0 : decide (x4_1 < (l0.length : Int)) = false := decide_eq_false c4
    clear c4
    obtain rfl := Option.some.inj H
    go_wp2
    go_ret
    exact ⟨zw, zb⟩
   rw [if_pos c4] at H
   have c4b0 : decide (x4_1 < (l0.length : Int)) = true := decide_eq_true c4
   clear c4
   by_cases c5 : 0 ≤ x4_1
   rotate_left
   ·rw [if_neg c5] at H
    exact absurd H (by simp)
   rw [if_pos c5] at H
   have c5b0 : decide (0 ≤ x4_1) = true := decide_eq_true c5
   clear c5
   obtain ⟨ji6, hji6⟩ : ∃ j_ : Int, (mx x3_1 (rd l0 x4_1)) = j_ := ⟨_, rfl⟩
   replace H : (slices_Max_int64_int64.l0 k1 l0 ji6 (wrap64 (x4_1 + 1))) = some r := by first | (rw [hji6] at H; exact H) | (simp only [hji6] at H ⊢; exact H)
   have hji6_ : (if x3_1 < (rd l0 x4_1) then (rd l0 x4_1) else x3_1) = ji6 := hji6
   have H' := aM H
   clear H
   have p401 : 0 ≤ (x4_1 : Int) := of_decide_eq_true za
   have q401 : x4_1 < (l0.length : Int) := of_decide_eq_true za
   obtain ⟨ad401, e401, hx401_0⟩ := Kd.at_int HR0.out x4_1 p401 q401
   obtain rfl : ad400 = ad401 := (by injection e401)
   replace hx401_0 := zk HB.out hx401_0
   replace p401 := eq_true p401
   replace q401 := eq_true q401
   go_wp2
   go_roundg k1
   case measure => have := HK1.out; omega
   case rel => exact ⟨(ji6), (wrap64 (x4_1 + 1)), (by first | rfl | (simp; done) | (simp only [← hji6] <;> (first | rfl | simp)) | (simp [*]; done)), zr, H', ⟨by have := HK1.out; omega⟩, ⟨zb⟩⟩
def lastIdx : List S82 → S82 → Nat → Option Nat
  | [], _, _ => none
  | a :: r, c, i => match lastIdx r c (i + 1) with
    | some j => some j
    | none => if a.f0 = c.f0 ∧ a.f1 = c.f1 then some i else none
def wfC (c : S82) : Bool := (Lit.int .i64 c.f0).wf && (Lit.int .i64 c.f1).wf
def impl_partsLook.f (l0 : List (S82)) (a1_0 : Int) (a1_1 : Int) : Option (Int × Bool) :=
  if wfC ⟨a1_0, a1_1⟩ = true then some (match lastIdx l0 ⟨a1_0, a1_1⟩ 0 with | some j => ((j : Int), true) | none => (0, false)) else none
theorem lastIdx_snoc (c d : S82) : ∀ (l : List S82) (i : Nat), lastIdx (l ++ [c]) d i = if c.f0 = d.f0 ∧ c.f1 = d.f1 then some (i + l.length) else lastIdx l d i
  | [], i => by simp [lastIdx]
  | a :: r, i => by
    rw [List.cons_append, lastIdx, lastIdx_snoc c d r (i + 1)]
    by_cases h : c.f0 = d.f0 ∧ c.f1 = d.f1
    · simp only [h, and_self, if_true, List.length_cons]; congr 1; omega
    · simp only [h, if_false]; rw [lastIdx]
theorem laidOutP : laidOutB Tryz.prog = true := by kernel_rfl
theorem keyedC : Maps.Keyed Tryz.prog 82 := Maps.Keyed.of_law (deep_law_laid laidOutP (m := 4) (by omega) (of_decide_eq_true (by kernel_rfl)) (by kernel_rfl) (by kernel_rfl))
theorem keyTypeC : Tryz.prog.keyType 82 = true := by kernel_rfl
theorem cellsOfC : Tryz.prog.cellsOf 82 = 2 := by kernel_rfl
theorem cellsOfI : Tryz.prog.cellsOf 2 = 1 := by kernel_rfl
theorem typesSize : ∃ n, Tryz.prog.types.size = n + 1 := ⟨Tryz.prog.types.size - 1, by have : (0 < Tryz.prog.types.size) := of_decide_eq_true (by kernel_rfl); omega⟩
abbrev valC (c : S82) : Value := .agg #[.int .i64 c.f0, .int .i64 c.f1]
theorem keyC (c : S82) (h : wfC c = true) : ∃ kl, keyOf Tryz.prog 82 (valC c) = some kl := by
  unfold wfC at h
  rw [Bool.and_eq_true] at h
  obtain ⟨n, hn⟩ := typesSize
  unfold keyOf
  rw [Tryz.underlying82]
  have hf : (valC c).formed Tryz.prog 82 = true := by
    simp only [Value.formed, Tryz.underlying82, cellsOfC]; rfl
  simp only [keyTypeC, hf, Bool.and_self, if_true, hn]
  refine ⟨_, Option.map_eq_some_iff.2 ⟨[.int .i64 c.f0, .int .i64 c.f1], ?_, rfl⟩⟩
  simp [Program.keyLits, Tryz.underlying82, Tryz.underlying2, cellsOfC, cellsOfI, Value.cells, h.1, h.2]
theorem valC_inj {c d : S82} (h : valC c = valC d) : c.f0 = d.f0 ∧ c.f1 = d.f1 := by
  simpa [valC] using h
def PM (w : World) (b : Nat) (l : List S82) : Prop :=
  ∃ (D : DataW Unit) (n : Nat), w.ownsMap Tryz.prog 82 (plainElem Tryz.prog 3) b n D ∧ n ≤ l.length ∧ Maps.IsMap D ∧
    ∀ (c : S82) (kl : Lit), keyOf Tryz.prog 82 (valC c) = some kl → Maps.has D kl = (lastIdx l c 0).isSome ∧ ∀ j : Nat, lastIdx l c 0 = some j → D.atKey kl (.lit (.int .i64 0)) = .lit (.int .i64 j)
section
variable {w w1 W : World} {b g : Nat} {l : List S82}
theorem pm_kept (h : PM w b l) {row : Option Nat} (hg : w.grownBy w1 row) (hne : some b ≠ row) : PM w1 b l := by
  obtain ⟨D, n, ho, r⟩ := h
  exact ⟨D, n, ho.kept hg hne, r⟩
theorem pm_lt (h : PM w b l) : b < w.heap.size := by
  obtain ⟨D, n, ho, r⟩ := h
  exact ho.lt
theorem pm_step (h : PM w b l) (hb : Below w.heap.size w w1) : PM w1 b l := pm_kept h (grown_of_below hb none) (by simp)
theorem pm_alloc (h : PM w b l) (o : Obj) : PM (w.alloc o) b l := pm_kept h (World.grownBy_alloc w o none) (by simp)
theorem pm_drewN (h : PM w b l) (n : Nat) : PM (w.drewN n) b l := pm_step h (pw_below_drewN (Below.refl _ _) n)
theorem pm_drew (h : PM w b l) : PM w.drew b l := pm_step h (below_drew1 (Below.refl _ _))
theorem pm_obj (h : PM w b l) : ∃ es clock, w.heap[b]? = some (.map es clock) := by
  obtain ⟨D, n, ⟨es, clock, hb, _⟩, r⟩ := h
  exact ⟨es, clock, hb⟩
theorem pm_neB (h : PM w b l) {cs : Array Value} {t : TypeId} {fr : Nat × Nat} (hg : w.heap[g]? = some (.cells cs t fr)) : b ≠ g := by
  obtain ⟨es, clock, hb⟩ := pm_obj h
  rintro rfl
  rw [hb] at hg
  simp at hg
theorem pm_farN (h : PM w b l) (hne : b ≠ g) {j : Nat} (u : Value) : PM (w.setCell ⟨g, j, none⟩ u) b l :=
  pm_kept (row := some g) h ⟨rfl, rfl, rfl, by simp, fun k _ hk => Below.heap_setCell _ _ _ k (fun e => hk (by rw [e]))⟩ (by simpa using hne)
theorem pm_row {α : Type} {d : Kd α} {e base : Nat} {ok : Nat → Prop} {v : Value} {xs : List α} (h : PM w b l) (hr : d.R e w base ok v xs) : some b ≠ v.ownBlock := by
  intro he
  obtain ⟨cells, hc⟩ := Kd.R_typed hr b he.symm
  exact pm_neB h hc rfl
theorem pm_append {α : Type} {d : Kd α} {e base : Nat} {ok : Nat → Prop} {v : Value} {xs : List α} (h : PM w b l) (hr : d.R e w base ok v xs) (hg : w.grownBy w1 v.ownBlock) : PM w1 b l := pm_kept h hg (pm_row h hr)
theorem R_map {α : Type} {d : Kd α} {e base : Nat} {ok : Nat → Prop} {v : Value} {xs : List α} (hr : d.R e w base ok v xs) (h : PM w b l) (hg : w.grownBy w1 (some b)) : d.R e w1 base ok v xs :=
  Kd.R_mono (Kd.R_move (Kd.R_bound hr) (fun k hk => hg.block k hk.2.2.1 (by
    obtain ⟨_, _, _, q, _, cells, hc⟩ := hk
    intro he
    injection he with he
    subst he
    exact pm_neB h hc rfl))) (fun _ hk => hk.1)
end
section
variable {rest : List Oper} {o : Oper} {a : Act} {ops : Array Oper} {Q : Exit → Act → World → Prop} {W : World} {b : Nat} {l : List S82}
theorem gate_map {t : TypeId} {m x v : Operand} (_ho : o.op = .mapUpdate t m x v) (h : wpList Tryz.prog ops Q (o :: rest) a W) : wpList Tryz.prog ops Q (o :: rest) a W := h
theorem pm_make (hgd : o.guard = none) (hop : o.op = .makeMap 160 none) (h : ∀ b w1, Below W.heap.size W w1 → W.heap.size ≤ b → PM w1 b [] → wpList Tryz.prog ops Q rest (a.put o.dst (.map (some b))) w1) : wpList Tryz.prog ops Q (o :: rest) a W := by
  refine Kd.event_run hgd (v := .map (some W.heap.size)) (w1 := W.alloc (.map #[] 0)) ?_ (h _ _ (below_alloc (Below.refl _ _) _) (Nat.le_refl _) ⟨.map [], 0, World.ownsMap_made _ _ _ _, Nat.le_refl _, Maps.isMap_empty, fun c kl _ => ⟨rfl, fun j hj => by simp [lastIdx] at hj⟩⟩)
  simp [execOp, hop, run_makeMap]
theorem pm_put (hgd : o.guard = none) (m x v : Operand) (hop : o.op = .mapUpdate 160 m x v) (hm : a.eval m = .map (some b)) (hM : PM W b l) (hl : l.length ≤ 35184372088832) (c : S82) (hx : a.eval x = valC c) (hv : a.eval v = .int .i64 (l.length : Int)) (hc : wfC c = true)
    (h : ∀ w1, W.grownBy w1 (some b) → PM w1 b (l ++ [c]) → wpList Tryz.prog ops Q rest (a.put o.dst undef) w1) : wpList Tryz.prog ops Q (o :: rest) a W := by
  obtain ⟨D, n, ho, hn, hI, hD⟩ := hM
  obtain ⟨kl, hk⟩ := keyC c hc
  have hw : (Lit.int .i64 (l.length : Int)).wf = true := by
    simp only [Lit.wf, IntKind.min, IntKind.max, IntKind.signed, IntKind.bits, Bool.and_eq_true, decide_eq_true_eq, if_true]; omega
  refine wpList_mapUpdate_own W hgd m x v 160 hop 82 3 keyedC Tryz.underlying160 (plainElem Tryz.prog 3) b n D hm ho (by simp only [maxLen]; omega) _ _ kl hx hv hk _ [] (plainElem_int Tryz.underlying3 hw) ?_
  intro w1 ho1 hg
  refine h w1 hg ⟨_, _, ho1, by simp; omega, hI.put _ _, fun d kd hd => ?_⟩
  rw [lastIdx_snoc]
  by_cases e : c.f0 = d.f0 ∧ c.f1 = d.f1
  · have : valC c = valC d := by simp [valC, e.1, e.2]
    rw [← this, hk] at hd
    injection hd with hd
    subst hd
    simp only [e, and_self, if_true, Nat.zero_add]
    refine ⟨by rw [Maps.has_put_same hI (keyedC.key hk)]; rfl, fun j hj => ?_⟩
    obtain rfl := Option.some.inj hj
    exact Maps.atKey_put_same hI (keyedC.key hk) _ _
  · have hne : kd ≠ kl := fun he => e (valC_inj (keyedC.inj hk (he ▸ hd)))
    simp only [e, if_false]
    rw [Maps.has_put_other hne, Maps.atKey_put_other hne]
    exact hD d kd hd
theorem rd_take {l : List S82} {i : Nat} (h : i < l.length) : l.take i ++ [l.getD i z82] = l.take (i + 1) := by
  rw [List.take_add_one, List.getD_eq_getElem?_getD, List.getElem?_eq_getElem h]; rfl
theorem pm_putAt (hgd : o.guard = none) (m x v : Operand) (hop : o.op = .mapUpdate 160 m x v) (hm : a.eval m = .map (some b)) (i : Int) (hM : PM W b (l.take i.toNat)) (h0 : 0 ≤ i) (h1 : i < (l.length : Int)) (hl : l.length ≤ 35184372088832) (hw : l.all wfC = true)
    (hx : a.eval x = .agg #[.int .i64 (rd_T82 l i).f0, .int .i64 (rd_T82 l i).f1]) (hv : a.eval v = .int .i64 i)
    (h : ∀ w1, W.grownBy w1 (some b) → 0 ≤ wrap64 (i + 1) → PM w1 b (l.take (wrap64 (i + 1)).toNat) → wpList Tryz.prog ops Q rest (a.put o.dst undef) w1) : wpList Tryz.prog ops Q (o :: rest) a W := by
  have hi : i.toNat < l.length := by omega
  have e : wrap64 (i + 1) = i + 1 := by simp only [wrap64]; omega
  have hlen : (l.take i.toNat).length = i.toNat := by rw [List.length_take]; omega
  refine pm_put hgd m x v hop hm hM (by omega) (rd_T82 l i) hx (by rw [hv, hlen]; congr 1; omega) ?_ ?_
  · refine List.all_eq_true.1 hw _ ?_
    unfold rd_T82
    rw [List.getD_eq_getElem?_getD, List.getElem?_eq_getElem hi]
    exact List.getElem_mem hi
  · intro w1 hg hp
    have hp' : PM w1 b (l.take i.toNat ++ [l.getD i.toNat z82]) := hp
    rw [rd_take hi] at hp'
    refine h w1 hg (by omega) ?_
    rw [e, show (i + 1).toNat = i.toNat + 1 by omega]
    exact hp'
theorem pm_all {w : World} {i : Int} (h : PM w b (l.take i.toNat)) (hi : ¬ i < (l.length : Int)) : PM w b l := by
  rwa [List.take_of_length_le (by omega)] at h
theorem pm_look (hgd : o.guard = none) (m x : Operand) (hop : o.op = .lookup 160 m x true) (hm : a.eval m = .map (some b)) (hM : PM W b l) (c0 c1 : Int) (hx : a.eval x = .agg #[.int .i64 c0, .int .i64 c1]) {t : Int} {ok : Bool} (hf : impl_partsLook.f l c0 c1 = some (t, ok))
    (h : ∀ w1, Below W.heap.size W w1 → PM w1 b l → wpList Tryz.prog ops Q rest (a.put o.dst (.tuple #[.int .i64 t, .bool ok])) w1) : wpList Tryz.prog ops Q (o :: rest) a W := by
  have hM' := hM
  obtain ⟨D, n, ho, hn, hI, hD⟩ := hM
  unfold impl_partsLook.f at hf
  by_cases hw : wfC ⟨c0, c1⟩ = true
  · rw [if_pos hw] at hf
    obtain ⟨kl, hk⟩ := keyC ⟨c0, c1⟩ hw
    obtain ⟨h1, h2⟩ := hD ⟨c0, c1⟩ kl hk
    refine wpList_lookup_own_ok_int W hgd m x 160 hop 82 3 .i64 keyedC Tryz.underlying160 Tryz.underlying3 (by kernel_rfl) b n D hm ho _ kl hx hk ?_
    intro q hq _
    cases e : lastIdx l ⟨c0, c1⟩ 0 with
    | some j =>
      rw [e] at hf h1
      have h3 := h2 j e
      rw [h3] at hq
      simp only [Option.some.injEq, Prod.mk.injEq] at hf
      obtain ⟨rfl, rfl⟩ := hf
      obtain rfl : (j : Int) = q := by simpa using hq
      rw [h1]
      exact h W (Below.refl _ _) hM'
    | none =>
      rw [e] at hf h1
      rw [Maps.atKey_of_not_has (by simpa using h1)] at hq
      simp only [Option.some.injEq, Prod.mk.injEq] at hf
      obtain ⟨rfl, rfl⟩ := hf
      obtain rfl : (0 : Int) = q := by simpa using hq
      rw [h1]
      exact h W (Below.refl _ _) hM'
  · rw [if_neg hw] at hf
    exact absurd hf (by simp)
end
def impl_around.f (a0_0 : Int) (a0_1 : Int) : Option ((List (S82))) := some (([(⟨a0_0, wrap64 (a0_1 - 1)⟩ : S82), (⟨wrap64 (a0_0 - 1), a0_1⟩ : S82), (⟨wrap64 (a0_0 + 1), a0_1⟩ : S82), (⟨a0_0, wrap64 (a0_1 + 1)⟩ : S82)] : List (S82)))
theorem impl_around.calls (a0_0 : Int) (a0_1 : Int) (r : List (S82)) (w : World) (h : impl_around.f a0_0 a0_1 = some r) :
  Calls Tryz.prog 76 #[.agg #[.int .i64 a0_0, .int .i64 a0_1]] w fun e w' => ∃ v0_ : Value, e = .returned (v0_) ∧ Kd.R k82 82 w' w.heap.size (fun _ => True) v0_ r ∧ Below w.heap.size w w' := by
 have hu82 := Tryz.underlying82
 have HB := aM (Below.refl w.heap.size w)
 have H : (some (([(⟨a0_0, wrap64 (a0_1 - 1)⟩ : S82), (⟨wrap64 (a0_0 - 1), a0_1⟩ : S82), (⟨wrap64 (a0_0 + 1), a0_1⟩ : S82), (⟨a0_0, wrap64 (a0_1 + 1)⟩ : S82)] : List (S82)))) = some r := h
 clear h
 obtain ⟨y403, hy403⟩ : ∃ y_ : List (S82), y_ = (([(⟨a0_0, wrap64 (a0_1 - 1)⟩ : S82), (⟨wrap64 (a0_0 - 1), a0_1⟩ : S82), (⟨wrap64 (a0_0 + 1), a0_1⟩ : S82), (⟨a0_0, wrap64 (a0_1 + 1)⟩ : S82)] : List (S82))) := ⟨_, rfl⟩
 replace H : (some y403) = some r := zy H hy403
 have Ny403 := aM hy403
 clear hy403
 obtain rfl := Option.some.inj H
 go_enter Tryz.func76, Tryz.ntmps76
 go_wp2_with (first | ((with_reducible refine gate_dst (N := 1) rfl ?_); refine zx 1 #[.int .i64 a0_0, .int .i64 a0_1] 82 ?_; intro gb402 hg w2 hbox hb; have _ := aM (below_step zb hb); have _ := aM (hbox); have _ := aM ((ze : w.heap.size ≤ gb402)); have _ := aM ((ze : w.heap.size ≤ gb402)); clear HB; rename_i HB BK402 GW402 GE402; clear hb hbox hg; obtain ⟨hcz3_0, hcz3_1, hfz3_0, hfz3_1⟩ := zQ2 BK402.out) | ((with_reducible refine gate_dst (N := 27) rfl ?_); refine Kd.R_lit k82 _ 82 ?hg (N := 27) ?hd (xs := ([(⟨a0_0, wrap64 (a0_1 - 1)⟩ : S82), (⟨wrap64 (a0_0 - 1), a0_1⟩ : S82), (⟨wrap64 (a0_0 + 1), a0_1⟩ : S82), (⟨a0_0, wrap64 (a0_1 + 1)⟩ : S82)] : List (S82))) (inner := [.int .i64 a0_0, .int .i64 (wrap64 (a0_1 - 1)), .int .i64 (wrap64 (a0_0 - 1)), .int .i64 a0_1, .int .i64 (wrap64 (a0_0 + 1)), .int .i64 a0_1, .int .i64 a0_0, .int .i64 (wrap64 (a0_1 + 1))]) (ok := fun _ => True) (okp := fun _ => True) ?hr ?hp (fun _ hk => hk) trivial (Below.refl _ _) (Nat.le_refl _) (by simp) ?_; (case hd => rfl); (case hg => rfl); (case hr => first | (go_simp; done) | (go_simp; rfl)); (case hp => exact (Reps.c2 (show Kd.M k82 _ _ _ (⟨a0_0, wrap64 (a0_1 - 1)⟩ : S82) [.int .i64 a0_0, .int .i64 (wrap64 (a0_1 - 1))] from (k82_mkM _ _ _ (⟨a0_0, wrap64 (a0_1 - 1)⟩ : S82) )) (Reps.c2 (show Kd.M k82 _ _ _ (⟨wrap64 (a0_0 - 1), a0_1⟩ : S82) [.int .i64 (wrap64 (a0_0 - 1)), .int .i64 a0_1] from (k82_mkM _ _ _ (⟨wrap64 (a0_0 - 1), a0_1⟩ : S82) )) (Reps.c2 (show Kd.M k82 _ _ _ (⟨wrap64 (a0_0 + 1), a0_1⟩ : S82) [.int .i64 (wrap64 (a0_0 + 1)), .int .i64 a0_1] from (k82_mkM _ _ _ (⟨wrap64 (a0_0 + 1), a0_1⟩ : S82) )) (Reps.c2 (show Kd.M k82 _ _ _ (⟨a0_0, wrap64 (a0_1 + 1)⟩ : S82) [.int .i64 a0_0, .int .i64 (wrap64 (a0_1 + 1))] from (k82_mkM _ _ _ (⟨a0_0, wrap64 (a0_1 + 1)⟩ : S82) )) (Reps.none _ _)))))); intro v404 w4 ho5 hb hg_ hnew_; clear hg_ hnew_; (first | rw [← Ny403.out] at ho5 | (simp only [Int.reduceToNat] at ho5; rw [← Ny403.out] at ho5)); have _ := aM (Kd.R_lower (Kd.R_newB ho5 (g := gb402) (o := .cells #[.int .i64 a0_0, .int .i64 a0_1] 82 (0, 0)) (mB_ BK402.out)) (below_size (zs GE402.out))); have _ := aM (blk_below (g := gb402) (o := .cells #[.int .i64 a0_0, .int .i64 a0_1] 82 (0, 0)) (mB_ BK402.out) hb); have _ := aM (below_step (zs GE402.out) hb); clear BK402 HB; rename_i HO405 BK402 HB; clear hb ho5))
 go_ret
 exact ⟨_, zw, zd0 HO405.out, zs GE402.out⟩
end Go.Proofs.YtipafadbhmngnaaGreatDoor.F
end
section
namespace Go.Proofs.YtipafadbhmngnaaGreatDoor.F
open Go.RowKit Go.Proofs.YtipafadbhmngnaaGreatDoorW.PrintWords Go.Proofs.YtipafadbhmngnaaGreatDoorW.PrintLast Go.Proofs.YtipafadbhmngnaaGreatDoorW.PrintMore
attribute [local go_sem] max2_int min2_int max_two min_two max_three min_three max_four min_four
set_option linter.unusedVariables false
set_option linter.unusedSimpArgs false
end Go.Proofs.YtipafadbhmngnaaGreatDoor.F
end
