/- The row of FnExactPuzzleText, with what it needs: text 4 of 11. -/
import Derived.Test.YtipafadbhmngnaaGreatDoorQ2
set_option maxHeartbeats 8000000
set_option maxRecDepth 100000
section
namespace Go.Proofs.YtipafadbhmngnaaGreatDoor.F
open Go.RowKit Go.Proofs.YtipafadbhmngnaaGreatDoorW.PrintWords Go.Proofs.YtipafadbhmngnaaGreatDoorW.PrintLast Go.Proofs.YtipafadbhmngnaaGreatDoorW.PrintMore
attribute [local go_sem] max2_int min2_int max_two min_two max_three min_three max_four min_four
set_option linter.unusedVariables false
set_option linter.unusedSimpArgs false
attribute [local go_sem high] eqA82
theorem spec_l02One.calls (k : Nat) (A0 : Option Addr) (c0 : Nat) (l0 : List Int) (r : Bool) (w : World) (hr0 : Kd.C (Kd.int .i64) w A0 l0.length l0) (hc0 : l0.length ≤ c0) (h : spec_l02One.f k l0 = some r) :
  Calls Tryz.prog 115 #[.slice A0 l0.length c0] w fun e w' => e = .returned (.bool r) ∧ Drawn0 w w' := by
 have HR0 := aM hr0
 have HC0 := aM hc0
 clear hr0 hc0
 have H : (spec_l02One.l0 k l0 0) = some r := h
 clear h
 have H' := aM H
 clear H
 go_enter Tryz.func115, Tryz.ntmps115
 go_wp2
 go_loopg [3] k (fun kq v3 w' => ∃ (x3_1 : Int), v3 = .int .i64 x3_1 ∧ Aside0 (spec_l02One.l0 kq l0 x3_1 = some r) ∧ Aside0 (kq ≤ k) ∧ Drawn0 w w')
 case atStart => exact ⟨(0), zr, H', ⟨Nat.le_refl _⟩, by repeat (first | exact Drawn0.refl _ | apply Drawn0.step)⟩
 case round =>
  clear H'
  try clear c1
  obtain ⟨x3_1, rfl, HA, HK1, ⟨m1, rfl⟩⟩ := hrel
  cases gk with
  | zero => exact absurd HA.out (by simp [spec_l02One.l0])
  | succ k1 =>
   have H := HA.out
   clear HA
   simp only [spec_l02One.l0] at H
   by_cases c2 : x3_1 < (l0.length : Int)
   rotate_left
   ·rw [if_neg c2] at H
    have c2b0 : decide (x3_1 < (l0.length : Int)) = false := decide_eq_false c2
    clear c2
    obtain rfl := Option.some.inj H
    go_wp2
    go_ret
    exact ⟨by first | rfl | (simp; done) | (simp [*]; done), by repeat (first | exact Drawn0.refl _ | apply Drawn0.step)⟩
   rw [if_pos c2] at H
   have c2b0 : decide (x3_1 < (l0.length : Int)) = true := decide_eq_true c2
   clear c2
   by_cases c3 : 0 ≤ x3_1
   rotate_left
   ·rw [if_neg c3] at H
    exact absurd H (by simp)
   rw [if_pos c3] at H
   have c3b0 : decide (0 ≤ x3_1) = true := decide_eq_true c3
   clear c3
   by_cases c4 : (rd l0 x3_1) = 0
   rotate_left
   ·rw [if_neg c4] at H
    have c4b0 : ((rd l0 x3_1) == 0) = false := beq_eq_false_iff_ne.mpr c4
    have c4b1 : ((rd l0 x3_1) != 0) = true := bne_iff_ne.mpr c4
    obtain rfl := Option.some.inj H
    have p132 : 0 ≤ (x3_1 : Int) := of_decide_eq_true za
    have q132 : x3_1 < (l0.length : Int) := of_decide_eq_true za
    obtain ⟨ad132, e132, hx132_0⟩ := Kd.at_int HR0.out x3_1 p132 q132
    cases e132
    replace p132 := eq_true p132
    replace q132 := eq_true q132
    go_wp2
    go_ret
    exact ⟨by first | rfl | (simp; done) | (simp [*]; done), by repeat (first | exact Drawn0.refl _ | apply Drawn0.step)⟩
   rw [if_pos c4] at H
   have c4b0 : ((rd l0 x3_1) == 0) = true := beq_iff_eq.mpr c4
   have c4b1 : ((rd l0 x3_1) != 0) = false := bne_eq_false_iff_eq.mpr c4
   clear c4
   have H' := aM H
   clear H
   have p132 : 0 ≤ (x3_1 : Int) := of_decide_eq_true za
   have q132 : x3_1 < (l0.length : Int) := of_decide_eq_true za
   obtain ⟨ad132, e132, hx132_0⟩ := Kd.at_int HR0.out x3_1 p132 q132
   cases e132
   replace p132 := eq_true p132
   replace q132 := eq_true q132
   go_wp2
   go_roundg k1
   case measure => have := HK1.out; omega
   case rel => exact ⟨(wrap64 (x3_1 + 1)), zr, H', ⟨by have := HK1.out; omega⟩, by repeat (first | exact Drawn0.refl _ | apply Drawn0.step)⟩
def spec_l02Index.l0 : Nat → List (S82) → Int → Int → Int → Option (Int)
 | 0, _, _, _, _ => none
 | k + 1, x0, x5, x134000, x134001 => if x5 < (x0.length : Int) then (if 0 ≤ x5 then (if (((rd_T82 x0 x5).f0) == x134000 && (((rd_T82 x0 x5).f1) == x134001)) = true then (some x5) else (spec_l02Index.l0 k x0 (wrap64 (x5 + 1)) x134000 x134001)) else (none)) else (some (-1))
def spec_l02Index.f (k : Nat) (l0 : List (S82)) (a1_0 : Int) (a1_1 : Int) : Option (Int) := spec_l02Index.l0 k l0 0 a1_0 a1_1
theorem spec_l02Index.calls (k : Nat) (A0 : Option Addr) (c0 : Nat) (l0 : List (S82)) (a1_0 : Int) (a1_1 : Int) (r : Int) (w : World) (hr0 : Kd.C k82 w A0 l0.length l0) (hc0 : l0.length ≤ c0) (h : spec_l02Index.f k l0 a1_0 a1_1 = some r) :
  Calls Tryz.prog 59 #[.slice A0 l0.length c0, .agg #[.int .i64 a1_0, .int .i64 a1_1]] w fun e w' => e = .returned (.int .i64 r) ∧ Below w.heap.size w w' := by
 have hu82 := Tryz.underlying82
 have HR0 := aM hr0
 have HC0 := aM hc0
 clear hr0 hc0
 have HB := aM (Below.refl w.heap.size w)
 have H : (spec_l02Index.l0 k l0 0 a1_0 a1_1) = some r := h
 clear h
 have H' := aM H
 clear H
 go_enter Tryz.func59, Tryz.ntmps59
 go_wp2_with (first | ((with_reducible refine gate_dst (N := 3) rfl ?_); refine zx 3 #[.int .i64 a1_0, .int .i64 a1_1] 82 ?_; intro gb133 hg w3 hbox hb; have _ := aM (below_step zb hb); have _ := aM (hbox); have _ := aM ((ze : w.heap.size ≤ gb133)); have _ := aM ((ze : w.heap.size ≤ gb133)); clear HB; rename_i HB BK133 GW133 GE133; clear hb hbox hg))
 repeat (go_quiet (first | ((with_reducible refine gate_dst (N := 3) rfl ?_); refine zx 3 #[.int .i64 a1_0, .int .i64 a1_1] 82 ?_; intro gb133 hg w3 hbox hb; have _ := aM (below_step zb hb); have _ := aM (hbox); have _ := aM ((ze : w.heap.size ≤ gb133)); have _ := aM ((ze : w.heap.size ≤ gb133)); clear HB; rename_i HB BK133 GW133 GE133; clear hb hbox hg)); try go_wp2_with (first | ((with_reducible refine gate_dst (N := 3) rfl ?_); refine zx 3 #[.int .i64 a1_0, .int .i64 a1_1] 82 ?_; intro gb133 hg w3 hbox hb; have _ := aM (below_step zb hb); have _ := aM (hbox); have _ := aM ((ze : w.heap.size ≤ gb133)); have _ := aM ((ze : w.heap.size ≤ gb133)); clear HB; rename_i HB BK133 GW133 GE133; clear hb hbox hg)))
 go_loopg [5] k (fun kq v5 w' => ∃ (x5_1 : Int), v5 = .int .i64 x5_1 ∧ Aside0 (spec_l02Index.l0 kq l0 x5_1 a1_0 a1_1 = some r) ∧ Aside0 (kq ≤ k) ∧ Aside0 (w'.heap[gb133]? = some (.cells #[.int .i64 a1_0, .int .i64 a1_1] 82 (0, 0))) ∧ Aside0 (Below w.heap.size w w'))
 case atStart => exact ⟨(0), zr, H', ⟨Nat.le_refl _⟩, ⟨mB_ BK133.out⟩, ⟨zs GE133.out⟩⟩
 case round =>
  clear H'
  try clear p2
  obtain ⟨x5_1, rfl, HA, HK1, BK133, HB⟩ := hrel
  cases gk with
  | zero => exact absurd HA.out (by simp [spec_l02Index.l0])
  | succ k1 =>
   have H := HA.out
   clear HA
   simp only [spec_l02Index.l0] at H
   by_cases c4 : x5_1 < (l0.length : Int)
   rotate_left
   ·rw [if_neg c4] at H
    have c4b0 : decide (x5_1 < (l0.length : Int)) = false := decide_eq_false c4
    clear c4
    obtain rfl := Option.some.inj H
    go_wp2
    repeat (go_quiet (fail); try go_wp2)
    go_ret
    exact ⟨zw, zs GE133.out⟩
   rw [if_pos c4] at H
   have c4b0 : decide (x5_1 < (l0.length : Int)) = true := decide_eq_true c4
   clear c4
   by_cases c5 : 0 ≤ x5_1
   rotate_left
   ·rw [if_neg c5] at H
    exact absurd H (by simp)
   rw [if_pos c5] at H
   have c5b0 : decide (0 ≤ x5_1) = true := decide_eq_true c5
   clear c5
   by_cases c6 : (((rd_T82 l0 x5_1).f0) == a1_0 && (((rd_T82 l0 x5_1).f1) == a1_1)) = true
   ·rw [if_pos c6] at H
    have c6b0 : (((rd_T82 l0 x5_1).f0) == a1_0 && (((rd_T82 l0 x5_1).f1) == a1_1)) = true := c6
    (try (have c6b1 : decide (((rd_T82 l0 x5_1).f0) = a1_0 && (((rd_T82 l0 x5_1).f1) == a1_1)) = true := by simpa using c6))
    (try (have c6b2 : (((rd_T82 l0 x5_1).f0) == a1_0 && (((rd_T82 l0 x5_1).f1) == a1_1)) = true := by simpa using c6))
    clear c6
    obtain rfl := Option.some.inj H
    have p134 : 0 ≤ (x5_1 : Int) := of_decide_eq_true za
    have q134 : x5_1 < (l0.length : Int) := of_decide_eq_true za
    obtain ⟨ad134, e134, hx134_0, hx134_1⟩ := at_T82 HR0.out x5_1 p134 q134
    cases e134
    replace hx134_0 := zk HB.out hx134_0
    replace hx134_1 := zk HB.out hx134_1
    replace p134 := eq_true p134
    replace q134 := eq_true q134
    obtain ⟨hcz7_0, hcz7_1, hfz7_0, hfz7_1⟩ := zQ2 BK133.out
    go_wp2
    repeat (go_quiet (fail); try go_wp2)
    go_ret
    exact ⟨zw, zs GE133.out⟩
   rw [if_neg c6] at H
   have c6b0 : (((rd_T82 l0 x5_1).f0) == a1_0 && (((rd_T82 l0 x5_1).f1) == a1_1)) = false := by simpa using c6
   (try (have c6b1 : decide (((rd_T82 l0 x5_1).f0) = a1_0 && (((rd_T82 l0 x5_1).f1) == a1_1)) = false := by simpa using c6))
   (try (have c6b2 : (((rd_T82 l0 x5_1).f0) == a1_0 && (((rd_T82 l0 x5_1).f1) == a1_1)) = false := by simpa using c6))
   (try (have c6b3 : ¬ (((rd_T82 l0 x5_1).f0) = a1_0 && (((rd_T82 l0 x5_1).f1) == a1_1)) := by simpa using c6))
   clear c6
   have H' := aM H
   clear H
   have p134 : 0 ≤ (x5_1 : Int) := of_decide_eq_true za
   have q134 : x5_1 < (l0.length : Int) := of_decide_eq_true za
   obtain ⟨ad134, e134, hx134_0, hx134_1⟩ := at_T82 HR0.out x5_1 p134 q134
   cases e134
   replace hx134_0 := zk HB.out hx134_0
   replace hx134_1 := zk HB.out hx134_1
   replace p134 := eq_true p134
   replace q134 := eq_true q134
   obtain ⟨hcz8_0, hcz8_1, hfz8_0, hfz8_1⟩ := zQ2 BK133.out
   go_wp2
   repeat (go_quiet (fail); try go_wp2)
   go_roundg k1
   case measure => have := HK1.out; omega
   case rel => exact ⟨(wrap64 (x5_1 + 1)), zr, H', ⟨by have := HK1.out; omega⟩, ⟨mB_ BK133.out⟩, ⟨zs GE133.out⟩⟩
def spec_l02Around.f (a0_0 : Int) (a0_1 : Int) : Option ((List (S82))) := some (([(⟨a0_0, wrap64 (a0_1 - 1)⟩ : S82), (⟨wrap64 (a0_0 - 1), a0_1⟩ : S82), (⟨wrap64 (a0_0 + 1), a0_1⟩ : S82), (⟨a0_0, wrap64 (a0_1 + 1)⟩ : S82)] : List (S82)))
theorem spec_l02Around.calls (a0_0 : Int) (a0_1 : Int) (r : List (S82)) (w : World) (h : spec_l02Around.f a0_0 a0_1 = some r) :
  Calls Tryz.prog 140 #[.agg #[.int .i64 a0_0, .int .i64 a0_1]] w fun e w' => ∃ v0_ : Value, e = .returned (v0_) ∧ Kd.R k82 82 w' w.heap.size (fun _ => True) v0_ r ∧ Below w.heap.size w w' := by
 have hu82 := Tryz.underlying82
 have HB := aM (Below.refl w.heap.size w)
 have H : (some (([(⟨a0_0, wrap64 (a0_1 - 1)⟩ : S82), (⟨wrap64 (a0_0 - 1), a0_1⟩ : S82), (⟨wrap64 (a0_0 + 1), a0_1⟩ : S82), (⟨a0_0, wrap64 (a0_1 + 1)⟩ : S82)] : List (S82)))) = some r := h
 clear h
 obtain ⟨y136, hy136⟩ : ∃ y_ : List (S82), y_ = (([(⟨a0_0, wrap64 (a0_1 - 1)⟩ : S82), (⟨wrap64 (a0_0 - 1), a0_1⟩ : S82), (⟨wrap64 (a0_0 + 1), a0_1⟩ : S82), (⟨a0_0, wrap64 (a0_1 + 1)⟩ : S82)] : List (S82))) := ⟨_, rfl⟩
 replace H : (some y136) = some r := zy H hy136
 have Ny136 := aM hy136
 clear hy136
 obtain rfl := Option.some.inj H
 go_enter Tryz.func140, Tryz.ntmps140
 go_wp2_with (first | ((with_reducible refine gate_dst (N := 1) rfl ?_); refine zx 1 #[.int .i64 a0_0, .int .i64 a0_1] 82 ?_; intro gb135 hg w2 hbox hb; have _ := aM (below_step zb hb); have _ := aM (hbox); have _ := aM ((ze : w.heap.size ≤ gb135)); have _ := aM ((ze : w.heap.size ≤ gb135)); clear HB; rename_i HB BK135 GW135 GE135; clear hb hbox hg; obtain ⟨hcz3_0, hcz3_1, hfz3_0, hfz3_1⟩ := zQ2 BK135.out) | ((with_reducible refine gate_dst (N := 27) rfl ?_); refine Kd.R_lit k82 _ 82 ?hg (N := 27) ?hd (xs := ([(⟨a0_0, wrap64 (a0_1 - 1)⟩ : S82), (⟨wrap64 (a0_0 - 1), a0_1⟩ : S82), (⟨wrap64 (a0_0 + 1), a0_1⟩ : S82), (⟨a0_0, wrap64 (a0_1 + 1)⟩ : S82)] : List (S82))) (inner := [.int .i64 a0_0, .int .i64 (wrap64 (a0_1 - 1)), .int .i64 (wrap64 (a0_0 - 1)), .int .i64 a0_1, .int .i64 (wrap64 (a0_0 + 1)), .int .i64 a0_1, .int .i64 a0_0, .int .i64 (wrap64 (a0_1 + 1))]) (ok := fun _ => True) (okp := fun _ => True) ?hr ?hp (fun _ hk => hk) trivial (Below.refl _ _) (Nat.le_refl _) (by simp) ?_; (case hd => rfl); (case hg => rfl); (case hr => first | (go_simp; done) | (go_simp; rfl)); (case hp => exact (Reps.c2 (show Kd.M k82 _ _ _ (⟨a0_0, wrap64 (a0_1 - 1)⟩ : S82) [.int .i64 a0_0, .int .i64 (wrap64 (a0_1 - 1))] from (k82_mkM _ _ _ (⟨a0_0, wrap64 (a0_1 - 1)⟩ : S82) )) (Reps.c2 (show Kd.M k82 _ _ _ (⟨wrap64 (a0_0 - 1), a0_1⟩ : S82) [.int .i64 (wrap64 (a0_0 - 1)), .int .i64 a0_1] from (k82_mkM _ _ _ (⟨wrap64 (a0_0 - 1), a0_1⟩ : S82) )) (Reps.c2 (show Kd.M k82 _ _ _ (⟨wrap64 (a0_0 + 1), a0_1⟩ : S82) [.int .i64 (wrap64 (a0_0 + 1)), .int .i64 a0_1] from (k82_mkM _ _ _ (⟨wrap64 (a0_0 + 1), a0_1⟩ : S82) )) (Reps.c2 (show Kd.M k82 _ _ _ (⟨a0_0, wrap64 (a0_1 + 1)⟩ : S82) [.int .i64 a0_0, .int .i64 (wrap64 (a0_1 + 1))] from (k82_mkM _ _ _ (⟨a0_0, wrap64 (a0_1 + 1)⟩ : S82) )) (Reps.none _ _)))))); intro v137 w4 ho5 hb hg_ hnew_; clear hg_ hnew_; (first | rw [← Ny136.out] at ho5 | (simp only [Int.reduceToNat] at ho5; rw [← Ny136.out] at ho5)); have _ := aM (Kd.R_lower (Kd.R_newB ho5 (g := gb135) (o := .cells #[.int .i64 a0_0, .int .i64 a0_1] 82 (0, 0)) (mB_ BK135.out)) (below_size (zs GE135.out))); have _ := aM (blk_below (g := gb135) (o := .cells #[.int .i64 a0_0, .int .i64 a0_1] 82 (0, 0)) (mB_ BK135.out) hb); have _ := aM (below_step (zs GE135.out) hb); clear BK135 HB; rename_i HO138 BK135 HB; clear hb ho5))
 go_ret
 exact ⟨_, zw, zd0 HO138.out, zs GE135.out⟩
mutual
def spec_l02Parts.l0 : Nat → List (S82) → List Int → Int → Option (List Int)
 | 0, _, _, _ => none
 | k + 1, x0, x3, x4 => if x4 < (x0.length : Int) then (if x3.length < 17592186044416 then (spec_l02Parts.l0 k x0 (x3 ++ [(-1)]) (wrap64 (x4 + 1))) else (none)) else (spec_l02Parts.l1 k x0 x3 0)
def spec_l02Parts.l1 : Nat → List (S82) → List Int → Int → Option (List Int)
 | 0, _, _, _ => none
 | k + 1, x0, x3, x5 => if x5 < (x0.length : Int) then (if 0 ≤ x5 then (if x5 < (x3.length : Int) then (if (rd x3 x5) ≥ 0 then (spec_l02Parts.l1 k x0 x3 (wrap64 (x5 + 1))) else (spec_l02Parts.l2 k x0 (x3.set (x5 : Int).toNat x5) x5 (([x5] : List Int)))) else (none)) else (none)) else (some x3)
def spec_l02Parts.l2 : Nat → List (S82) → List Int → Int → List Int → Option (List Int)
 | 0, _, _, _, _ => none
 | k + 1, x0, x3, x5, x6 => if (x6.length : Int) > 0 then (if 0 < (x6.length : Int) then (if 0 ≤ (rd x6 0) then (if (rd x6 0) < (x0.length : Int) then ((spec_l02Around.f ((rd_T82 x0 (rd x6 0)).f0) ((rd_T82 x0 (rd x6 0)).f1)).bind fun t152 => (if 1 ≤ (x6.length : Int) then (spec_l02Parts.l3 k x0 x3 x5 (x6.drop (1 : Int).toNat) t152 0) else (none))) else (none)) else (none)) else (none)) else (spec_l02Parts.l1 k x0 x3 (wrap64 (x5 + 1)))
def spec_l02Parts.l3 : Nat → List (S82) → List Int → Int → List Int → List (S82) → Int → Option (List Int)
 | 0, _, _, _, _, _, _ => none
 | k + 1, x0, x3, x5, x6, x7, x8 => if x8 < 4 then (if 0 ≤ x8 then (if x8 < (x7.length : Int) then ((spec_l02Index.f k x0 ((rd_T82 x7 x8).f0) ((rd_T82 x7 x8).f1)).bind fun t159 => (if t159 ≥ 0 then (if 0 ≤ t159 then (if t159 < (x3.length : Int) then (if (rd x3 t159) < 0 then (if x6.length < 17592186044416 then (spec_l02Parts.l3 k x0 (x3.set (t159 : Int).toNat x5) x5 (x6 ++ [t159]) x7 (wrap64 (x8 + 1))) else (none)) else (spec_l02Parts.l3 k x0 x3 x5 x6 x7 (wrap64 (x8 + 1)))) else (none)) else (none)) else (spec_l02Parts.l3 k x0 x3 x5 x6 x7 (wrap64 (x8 + 1))))) else (none)) else (none)) else (spec_l02Parts.l2 k x0 x3 x5 x6)
end
def spec_l02Parts.f (k : Nat) (l0 : List (S82)) : Option (List Int) := spec_l02Parts.l0 k l0 (([] : List Int)) 0
theorem spec_l02Parts.calls (k : Nat) (A0 : Option Addr) (c0 : Nat) (l0 : List (S82)) (r : List Int) (w : World) (hr0 : Kd.C k82 w A0 l0.length l0) (hc0 : l0.length ≤ c0) (h : spec_l02Parts.f k l0 = some r) :
  Calls Tryz.prog 116 #[.slice A0 l0.length c0] w fun e w' => ∃ v0_ : Value, e = .returned (v0_) ∧ Kd.R (Kd.int .i64) 2 w' w.heap.size (fun _ => True) v0_ r ∧ Below w.heap.size w w' := by
 have hu82 := Tryz.underlying82
 have HR0 := aM hr0
 have HC0 := aM hc0
 clear hr0 hc0
 have HB := aM (Below.refl w.heap.size w)
 have H : (spec_l02Parts.l0 k l0 (([] : List Int)) 0) = some r := h
 clear h
 obtain ⟨y139, hy139⟩ : ∃ y_ : List Int, y_ = (([] : List Int)) := ⟨_, rfl⟩
 replace H : (spec_l02Parts.l0 k l0 y139 0) = some r := zy H hy139
 have Ny139 := aM hy139
 clear hy139
 have H' := aM H
 clear H
 go_enter Tryz.func116, Tryz.ntmps116
 go_wp2_with (first | ((with_reducible refine gate_dst (N := 10) rfl ?_); refine Kd.R_lit (Kd.int .i64) _ 2 ?hg (N := 10) ?hd (xs := ([] : List Int)) (inner := []) (ok := fun _ => True) (okp := fun _ => True) ?hr ?hp (fun _ hk => hk) trivial (Below.refl _ _) (Nat.le_refl _) (by simp) ?_; (case hd => rfl); (case hg => rfl); (case hr => first | (go_simp; done) | (go_simp; rfl)); (case hp => exact (Reps.none _ _)); intro v140 w2 ho3 hb hg_ hnew_; clear hg_ hnew_; (first | rw [← Ny139.out] at ho3 | (simp only [Int.reduceToNat] at ho3; rw [← Ny139.out] at ho3)); have _ := aM (Kd.R_lower ho3 (below_size zb)); have _ := aM (below_step zb hb); clear HB; rename_i HO141 HB; clear hb ho3))
 go_loopg [3, 4] k (fun kq v3 v4 w' => ∃ (x3_1 : List Int) (x4_1 : Int), v4 = .int .i64 x4_1 ∧ Aside0 (spec_l02Parts.l0 kq l0 x3_1 x4_1 = some r) ∧ Aside0 (kq ≤ k) ∧ Aside0 (Kd.R (Kd.int .i64) 2 w' w.heap.size (fun _ => True) v3 x3_1) ∧ Aside0 (Below w.heap.size w w'))
 case atStart => exact ⟨(y139), (0), zr, H', ⟨Nat.le_refl _⟩, ⟨mR_ HO141.out⟩, ⟨zb⟩⟩
 case round =>
  clear H'
  try clear c1
  try clear p2
  obtain ⟨x3_1, x4_1, rfl, HA, HK1, HO_3, HB⟩ := hrel
  cases gk with
  | zero => exact absurd HA.out (by simp [spec_l02Parts.l0])
  | succ k1 =>
   have H := HA.out
   clear HA
   simp only [spec_l02Parts.l0] at H
   by_cases c4 : x4_1 < (l0.length : Int)
   ·rw [if_pos c4] at H
    have c4b0 : decide (x4_1 < (l0.length : Int)) = true := decide_eq_true c4
    clear c4
    by_cases c5 : x3_1.length < 17592186044416
    rotate_left
    ·rw [if_neg c5] at H
     exact absurd H (by simp)
    rw [if_pos c5] at H
    have LMc5 := aM c5
    clear c5
    obtain ⟨y142, hy142⟩ : ∃ y_ : List Int, y_ = (x3_1 ++ [(-1)]) := ⟨_, rfl⟩
    replace H : (spec_l02Parts.l0 k1 l0 y142 (wrap64 (x4_1 + 1))) = some r := zy H hy142
    have Ny142 := aM hy142
    clear hy142
    have H' := aM H
    clear H
    go_wp2_with (first | ((with_reducible refine gate_builtin (b := .append) (xs := #[.tmp 17, .tmp 18]) rfl ?_); at_builtin; refine Kd.R_append (Kd.int .i64) (w0 := w) w.heap.size rfl (.tmp 17) (.tmp 18) 120 2 (.int .i64 0) 8 rfl Tryz.underlying120 info2 rfl (by decide) (by omega) u3 x3_1 (-1) [.int .i64 (-1)] (fun _ => True) (fun _ => False) rfl rfl ?aP (fun _ hk => hk.elim) ?aF ?aO ?aB ?aS ?aL ?_; (case aP => exact rfl); (case aB => exact zb); (case aF => exact (fun _ _ => trivial)); (case aO => exact (mR_ HO_3.out)); (case aS => exact (below_size zb)); (case aL => have := LMc5.out; omega); intro v143 w6 ho hb hg hat; rw [← Ny142.out] at ho; have _ := aM (hb); have _ := aM (ho); clear HB HO_3; rename_i HB HO144; clear ho hb hg hat))
    go_roundg k1
    case measure => have := HK1.out; omega
    case rel => exact ⟨(y142), (wrap64 (x4_1 + 1)), zr, H', ⟨by have := HK1.out; omega⟩, ⟨mR_ HO144.out⟩, ⟨zb⟩⟩
   rw [if_neg c4] at H
   have c4b0 : decide (x4_1 < (l0.length : Int)) = false := decide_eq_false c4
   clear c4
   have H' := aM H
   clear H
   go_wp2
   go_loopg [5] k1 (fun kq v5 w' => ∃ (x3_2 : List Int) (x5_2 : Int), v5 = .int .i64 x5_2 ∧ Aside0 (spec_l02Parts.l1 kq l0 x3_2 x5_2 = some r) ∧ Aside0 (kq ≤ k1) ∧ Aside0 (Kd.R (Kd.int .i64) 2 w' w.heap.size (fun _ => True) u3 x3_2) ∧ Aside0 (Below w.heap.size w w'))
   case atStart => exact ⟨(x3_1), (0), zr, H', ⟨Nat.le_refl _⟩, ⟨mR_ HO_3.out⟩, ⟨zb⟩⟩
   case round =>
    clear H'
    try clear c1
    try clear p2
    try clear c4
    try clear c4b0
    try clear c5
    try clear p6
    try clear p2
    obtain ⟨x3_2, x5_2, rfl, HA, HK2, HO_3, HB⟩ := hrel
    cases gk with
    | zero => exact absurd HA.out (by simp [spec_l02Parts.l1])
    | succ k2 =>
     have H := HA.out
     clear HA
     simp only [spec_l02Parts.l1] at H
     by_cases c7 : x5_2 < (l0.length : Int)
     rotate_left
     ·rw [if_neg c7] at H
      have c7b0 : decide (x5_2 < (l0.length : Int)) = false := decide_eq_false c7
      clear c7
      obtain rfl := Option.some.inj H
      go_wp2
      go_ret
      exact ⟨_, zw, mR_ HO_3.out, zb⟩
     rw [if_pos c7] at H
     have c7b0 : decide (x5_2 < (l0.length : Int)) = true := decide_eq_true c7
     clear c7
     by_cases c8 : 0 ≤ x5_2
     rotate_left
     ·rw [if_neg c8] at H
      exact absurd H (by simp)
     rw [if_pos c8] at H
     have c8b0 : decide (0 ≤ x5_2) = true := decide_eq_true c8
     clear c8
     by_cases c9 : x5_2 < (x3_2.length : Int)
     rotate_left
     ·rw [if_neg c9] at H
      exact absurd H (by simp)
     rw [if_pos c9] at H
     have c9b0 : decide (x5_2 < (x3_2.length : Int)) = true := decide_eq_true c9
     clear c9
     by_cases c10 : (rd x3_2 x5_2) ≥ 0
     ·rw [if_pos c10] at H
      have c10b0 : decide (0 ≤ (rd x3_2 x5_2)) = true := decide_eq_true c10
      clear c10
      have H' := aM H
      clear H
      obtain ⟨Ao11, co11, eo11⟩ := Kd.R_slice HO_3.out
      subst eo11
      have p145 : 0 ≤ (x5_2 : Int) := of_decide_eq_true za
      have q145 : x5_2 < (x3_2.length : Int) := of_decide_eq_true za
      obtain ⟨ad145, e145, hx145_0⟩ := Kd.at_int (Kd.R_reads' HO_3.out).2.2 x5_2 p145 q145
      cases e145
      replace p145 := eq_true p145
      replace q145 := eq_true q145
      go_wp2
      go_roundg k2
      case measure => have := HK1.out; have := HK2.out; omega
      case rel => exact ⟨(x3_2), (wrap64 (x5_2 + 1)), zr, H', ⟨by have := HK1.out; have := HK2.out; omega⟩, ⟨mR_ HO_3.out⟩, ⟨zb⟩⟩
     rw [if_neg c10] at H
     have c10b0 : decide (0 ≤ (rd x3_2 x5_2)) = false := decide_eq_false c10
     clear c10
     obtain ⟨y146, hy146⟩ : ∃ y_ : List Int, y_ = (x3_2.set (x5_2 : Int).toNat x5_2) := ⟨_, rfl⟩
     replace H : (spec_l02Parts.l2 k2 l0 y146 x5_2 (([x5_2] : List Int))) = some r := zy H hy146
     have Ny146 := aM hy146
     clear hy146
     obtain ⟨y147, hy147⟩ : ∃ y_ : List Int, y_ = (([x5_2] : List Int)) := ⟨_, rfl⟩
     replace H : (spec_l02Parts.l2 k2 l0 y146 x5_2 y147) = some r := zy H hy147
     have Ny147 := aM hy147
     clear hy147
     have H' := aM H
     clear H
     obtain ⟨Ao13, co13, eo13⟩ := Kd.R_slice HO_3.out
     subst eo13
     have p145 : 0 ≤ (x5_2 : Int) := of_decide_eq_true za
     have q145 : x5_2 < (x3_2.length : Int) := of_decide_eq_true za
     obtain ⟨ad145, e145, hx145_0⟩ := Kd.at_int (Kd.R_reads' HO_3.out).2.2 x5_2 p145 q145
     cases e145
     replace p145 := eq_true p145
     replace q145 := eq_true q145
     have p12 : 0 ≤ (x5_2 : Int) := of_decide_eq_true za
     have q12 : (x5_2 : Int) < ((x3_2.length : Int) : Int) := of_decide_eq_true za
     obtain ⟨go12, co12, eo12, gb12, gl12, cl12, HG12⟩ := Kd.R_form HO_3.out (by omega)
     (first | cases eo12 | (injection eo12 with ea_ en_ ec_; (first | subst ea_ | (injection ea_ with ea_; subst ea_)); subst ec_; clear en_))
     have GB12 := aM gb12
     have GG12 := aM HG12
     clear gb12 gl12 HG12
     (first | simp only [add_plain] at hx145_0 | skip)
     obtain ⟨hx12_0, hf12_0⟩ := Kd.R_celln 0 HO_3.out (x5_2 : Int) p12 q12
     replace p12 := eq_true p12
     replace q12 := eq_true q12
     have HP14 := Kd.R_putg HO_3.out (x5_2 : Int) x5_2
     go_wp2_with (first | ((with_reducible refine gate_store (t := 2) (p := 34) rfl ?_); refine store_event (t := 2) (p := 34) (v := ?vo_w15) (w1 := (wr.setCell ⟨go12, (x5_2 : Int).toNat, none⟩ (.int .i64 x5_2))) ?hg ?ho ?hn ?hr ?_; (case ho => rfl); (case hg => rfl); (case hn => rfl); (case hr => first | (go_simp; done) | (go_simp; rfl)); intro w15 hw; have hg : wr.grownBy w15 (some go12) := (by rw [hw]; exact HP14.2); have hp_ : Kd.R (Kd.int .i64) 2 w15 w.heap.size (fun _ => True) (.slice (some ⟨go12, 0, none⟩) x3_2.length co13) y146 := (by rw [hw, Ny146.out]; exact HP14.1); clear HP14; have _ := aM (hp_); have _ := aM ((by rw [hw]; exact below_set (HB.out) GB12.out : Below w.heap.size w w15)); clear HO_3 HB; rename_i HO_3 HB; clear hg hw hp_) | ((with_reducible refine gate_dst (N := 36) rfl ?_); refine Kd.R_lit (Kd.int .i64) _ 2 ?hg (N := 36) ?hd (xs := ([x5_2] : List Int)) (inner := [.int .i64 x5_2]) (ok := fun _ => True) (okp := fun _ => True) ?hr ?hp (fun _ hk => hk) trivial (Below.refl _ _) (Nat.le_refl _) (by simp) ?_; (case hd => rfl); (case hg => rfl); (case hr => first | (go_simp; done) | (go_simp; rfl)); (case hp => exact (Reps.one (show Kd.M (Kd.int .i64) _ _ _ x5_2 [.int .i64 x5_2] from rfl) (Reps.none _ _))); intro v148 w16 ho17 hb hg_ hnew_; clear hg_ hnew_; (first | rw [← Ny147.out] at ho17 | (simp only [Int.reduceToNat] at ho17; rw [← Ny147.out] at ho17)); have _ := aM (Kd.R_elder' (mR_ HO_3.out) (Kd.R_base ho17) hb); have _ := aM (Kd.R_lower (Kd.R_new' ho17 (Kd.R_lt (mR_ HO_3.out))) (below_size zb)); have _ := aM (below_step zb hb); clear HO_3 HB; rename_i HO_3 HO149 HB; clear hb ho17))
     go_loopg [6] k2 (fun kq v6 w' => ∃ (x3_3 : List Int) (x6_3 : List Int), Aside0 (spec_l02Parts.l2 kq l0 x3_3 x5_2 x6_3 = some r) ∧ Aside0 (kq ≤ k2) ∧ Aside0 (Kd.R (Kd.int .i64) 2 w' w.heap.size (fun k_ => some k_ ≠ (v6 : Value).ownBlock) (.slice (some ⟨go12, 0, none⟩) x3_2.length co13) x3_3) ∧ Aside0 (Kd.Q (Kd.int .i64) 2 w' w.heap.size (fun k_ => some k_ ≠ ((.slice (some ⟨go12, 0, none⟩) x3_2.length co13) : Value).ownBlock) v6 x6_3) ∧ Aside0 (Below w.heap.size w w'))
     case atStart => exact ⟨(y146), (y147), H', ⟨Nat.le_refl _⟩, ⟨zd1 HO_3.out⟩, ⟨Kd.Q_of_R (zd1 HO149.out)⟩, ⟨zb⟩⟩
     case round =>
      clear H'
      try clear c1
      try clear p1
      try clear q1
      try clear hx1
      try clear hf1
      try clear p2
      try clear c4
      try clear c4b0
      try clear c5
      try clear p6
      try clear c7
      try clear c7b0
      try clear c8
      try clear c8b0
      try clear c9
      try clear c9b0
      try clear c10
      try clear c10b0
      try clear c11
      try clear p12
      try clear q12
      try clear hx12
      try clear hf12
      try clear p14
      try clear q14
      try clear hx14
      try clear hx12_0
      try clear hx145_0
      try clear p12
      try clear p145
      try clear p2
      try clear p6
      try clear q12
      try clear q145
      obtain ⟨x3_3, x6_3, HA, HK3, HO_3, HO_6, HB⟩ := hrel
      have hl3_3 := (Kd.R_reads' HO_3.out).1
      rw [hl3_3] at HO_3
      (try simp only [hl3_3])
      (try simp only [hl3_3] at HO_6)
      cases gk with
      | zero => exact absurd HA.out (by simp [spec_l02Parts.l2])
      | succ k3 =>
       have H := HA.out
       clear HA
       simp only [spec_l02Parts.l2] at H
       by_cases c18 : (x6_3.length : Int) > 0
       rotate_left
       ·rw [if_neg c18] at H
        have c18b0 : decide (0 < (x6_3.length : Int)) = false := decide_eq_false c18
        have c18b1 : decide (0 < x6_3.length) = false := decide_eq_false (by omega)
        clear c18
        have H' := aM H
        clear H
        obtain ⟨Ao46, co46, eo46, _⟩ := Kd.Q_slice HO_6.out
        subst eo46
        go_wp2
        (try simp only [← hl3_3])
        go_roundg k3
        case measure => have := HK1.out; have := HK2.out; have := HK3.out; omega
        case rel => exact ⟨(x3_3), (wrap64 (x5_2 + 1)), zr, H', ⟨by have := HK1.out; have := HK2.out; have := HK3.out; omega⟩, ⟨by (try simp only [hl3_3]); (with_reducible repeat (first | apply Kd.R_alloc | apply Kd.R_drewN | apply Kd.R_drew)); exact Kd.R_mono HO_3.out (fun _ hk => trivial)⟩, ⟨zb⟩⟩
       rw [if_pos c18] at H
       have c18b0 : decide (0 < (x6_3.length : Int)) = true := decide_eq_true c18
       have c18b1 : decide (0 < x6_3.length) = true := decide_eq_true (by omega)
       clear c18
       by_cases c19 : 0 < (x6_3.length : Int)
       rotate_left
       ·rw [if_neg c19] at H
        exact absurd H (by simp)
       rw [if_pos c19] at H
       have c19b0 : decide (0 < (x6_3.length : Int)) = true := decide_eq_true c19
       have c19b1 : decide (0 < x6_3.length) = true := decide_eq_true (by omega)
       clear c19
       by_cases c20 : 0 ≤ (rd x6_3 0)
       rotate_left
       ·rw [if_neg c20] at H
        exact absurd H (by simp)
       rw [if_pos c20] at H
       have c20b0 : decide (0 ≤ (rd x6_3 0)) = true := decide_eq_true c20
       clear c20
       by_cases c21 : (rd x6_3 0) < (l0.length : Int)
       rotate_left
       ·rw [if_neg c21] at H
        exact absurd H (by simp)
       rw [if_pos c21] at H
       have c21b0 : decide ((rd x6_3 0) < (l0.length : Int)) = true := decide_eq_true c21
       clear c21
       replace H := Option.bind_eq_some_iff.mp H
       obtain ⟨t152, A220, H⟩ := H
       replace H : (if 1 ≤ (x6_3.length : Int) then (spec_l02Parts.l3 k3 l0 x3_3 x5_2 (x6_3.drop (1 : Int).toNat) t152 0) else (none)) = some r := H
       have A22 := aM A220
       clear A220
       by_cases c23 : 1 ≤ (x6_3.length : Int)
       rotate_left
       ·rw [if_neg c23] at H
        exact absurd H (by simp)
       rw [if_pos c23] at H
       have c23b0 := eq_true c23
       have c23b1 : decide (1 ≤ (x6_3.length : Int)) = true := decide_eq_true c23
       clear c23
       obtain ⟨y155, hy155⟩ : ∃ y_ : List Int, y_ = (x6_3.drop (1 : Int).toNat) := ⟨_, rfl⟩
       replace H : (spec_l02Parts.l3 k3 l0 x3_3 x5_2 y155 t152 0) = some r := zy H hy155
       have Ny155 := aM hy155
       clear hy155
       have H' := aM H
       clear H
       obtain ⟨Ao24, co24, eo24, _⟩ := Kd.Q_slice HO_6.out
       subst eo24
       have p150 : 0 ≤ (0 : Int) := (by omega)
       have q150 : 0 < (x6_3.length : Int) := of_decide_eq_true za
       obtain ⟨ad150, e150, hx150_0⟩ := Kd.at_int (Kd.Q_reads' HO_6.out).2.2 0 p150 q150
       cases e150
       have qi150 : (0 < x6_3.length) = True := eq_true (by omega)
       (try rw [show ((0 : Int)).toNat = 0 from rfl] at hx150_0)
       (try rw [Addr.add_zero'] at hx150_0)
       replace p150 := eq_true p150
       replace q150 := eq_true q150
       have p151 : 0 ≤ ((rd x6_3 0) : Int) := of_decide_eq_true za
       have q151 : (rd x6_3 0) < (l0.length : Int) := of_decide_eq_true za
       obtain ⟨ad151, e151, hx151_0, hx151_1⟩ := at_T82 HR0.out (rd x6_3 0) p151 q151
       cases e151
       replace hx151_0 := zk HB.out hx151_0
       replace hx151_1 := zk HB.out hx151_1
       replace p151 := eq_true p151
       replace q151 := eq_true q151
       go_wp2_with (first | ((with_reducible refine gate_callee (f := 140) rfl ?_); refine goesL_ (some 46) rfl rfl Tryz.func140 (by kernel_rfl) rfl #[.agg #[.int .i64 ((rd_T82 l0 (rd x6_3 0)).f0), .int .i64 ((rd_T82 l0 (rd x6_3 0)).f1)]] rfl zm ?_; (with_reducible refine (spec_l02Around.calls ((rd_T82 l0 (rd x6_3 0)).f0) ((rd_T82 l0 (rd x6_3 0)).f1) t152 _ A22.out).mono ?_); rintro e w25 ⟨v153, rfl, ho0, hb⟩; refine ⟨_, rfl, ?_⟩; have _ := aM (Kd.R_below (mR_ HO_3.out) hb); have _ := aM (Kd.Q_below (by (with_reducible repeat (first | apply Kd.Q_alloc | apply Kd.Q_drewN | apply Kd.Q_drew)); exact HO_6.out) hb); have _ := aM (Kd.R_lower ho0 (below_size zb)); have _ := aM (below_step zb hb); clear HO_3 HO_6 HB; rename_i HO_3 HO_6 HO154 HB; (try clear hb); (try clear hb2); (try clear hk); (try clear hi); (try clear ho0); have q26 : (1 : Int) ≤ ((x6_3.length : Int) : Int) := of_decide_eq_true za; obtain ⟨i026, hi026, _, hsz26, _⟩ := info_parts info2; have hcut26 := cut_from (P := Tryz.prog) 120 2 .i64 Tryz.underlying120 hi026 1 hsz26 (some ad150) x6_3.length co24 1 (by omega) q26; have hr26 := Kd.Q_drop (k := (1 : Int).toNat) HO_6.out (by omega); obtain ⟨A26, hA26⟩ : ∃ A1, A1 = (if co24 = (1 : Int).toNat then (some ad150) else ((some ad150) : Option Addr).map (·.add ((1 : Int).toNat * 1))) := ⟨_, rfl⟩; obtain ⟨c26, hc26⟩ : ∃ c1, c1 = co24 - (1 : Int).toNat := ⟨_, rfl⟩; have hy26 : y155.length = x6_3.length - (1 : Int).toNat := (by rw [Ny155.out, List.length_drop]); rw [← Ny155.out] at hr26; rw [← hy26, ← hA26, ← hc26] at hcut26; replace hr26 : Kd.Q (Kd.int .i64) 2 w25 w.heap.size (fun k_ => some k_ ≠ (.slice (some ⟨go12, 0, none⟩) x3_3.length co13 : Value).ownBlock) (.slice A26 y155.length c26) y155 := (by rw [hA26, hc26, hy26]; exact hr26); have HE26 : Aside0 ((Value.slice A26 y155.length c26).ownBlock = (.slice (some ad150) x6_3.length co24 : Value).ownBlock) := ⟨by rw [hA26]; split <;> (cases ((some ad150) : Option Addr) <;> rfl)⟩; clear hy26 hi026 hsz26 HO_6 hA26 hc26; have HO157 := aM hr26; clear hr26; replace q26 := eq_true q26; have n_ := aM (Kd.R_mono (ok' := fun k_ => some k_ ≠ (.slice A26 y155.length c26 : Value).ownBlock) HO_3.out (fun k_ hk => (by rw [HE26.out]; exact hk))); clear HO_3; have HO_3 := n_; clear n_))
       go_loopg [6, 8] k3 (fun kq v6 v8 w' => ∃ (x3_4 : List Int) (x6_4 : List Int) (x8_4 : Int), v8 = .int .i64 x8_4 ∧ Aside0 (spec_l02Parts.l3 kq l0 x3_4 x5_2 x6_4 t152 x8_4 = some r) ∧ Aside0 (kq ≤ k3) ∧ Aside0 (Kd.R (Kd.int .i64) 2 w' w.heap.size (fun k_ => some k_ ≠ (v6 : Value).ownBlock) (.slice (some ⟨go12, 0, none⟩) x3_3.length co13) x3_4) ∧ Aside0 (Kd.Q (Kd.int .i64) 2 w' w.heap.size (fun k_ => some k_ ≠ ((.slice (some ⟨go12, 0, none⟩) x3_3.length co13) : Value).ownBlock) v6 x6_4) ∧ Aside0 (Kd.R k82 82 w' w.heap.size (fun _ => True) v153 t152) ∧ Aside0 (Below w.heap.size w w'))
       case atStart => exact ⟨(x3_3), (y155), (0), zr, H', ⟨Nat.le_refl _⟩, ⟨by (try simp only [hl3_3]); (with_reducible repeat (first | apply Kd.R_alloc | apply Kd.R_drewN | apply Kd.R_drew)); exact HO_3.out⟩, ⟨by (try simp only [hl3_3]); (with_reducible repeat (first | apply Kd.Q_alloc | apply Kd.Q_drewN | apply Kd.Q_drew)); exact HO157.out⟩, ⟨by (try simp only [hl3_3]); (with_reducible repeat (first | apply Kd.R_alloc | apply Kd.R_drewN | apply Kd.R_drew)); exact HO154.out⟩, ⟨zb⟩⟩
       case round =>
        clear H'
        try clear c1
        try clear p1
        try clear q1
        try clear hx1
        try clear qi1
        try clear hf1
        try clear c2
        try clear p2
        try clear q2
        try clear c4
        try clear c4b0
        try clear c5
        try clear p6
        try clear c7
        try clear c7b0
        try clear c8
        try clear c8b0
        try clear c9
        try clear c9b0
        try clear c10
        try clear c10b0
        try clear c11
        try clear p12
        try clear q12
        try clear hx12
        try clear hf12
        try clear c14
        try clear p14
        try clear q14
        try clear hx14
        try clear p15
        try clear q15
        try clear hx15
        try clear qi15
        try clear c18
        try clear c18b0
        try clear c18b1
        try clear c19
        try clear c19b0
        try clear c19b1
        try clear c20
        try clear c20b0
        try clear c21
        try clear c21b0
        try clear c23
        try clear c23b0
        try clear c23b1
        try clear c26
        try clear q26
        try clear hx12_0
        try clear hx145_0
        try clear hx150_0
        try clear hx151_0
        try clear hx151_1
        try clear p1
        try clear p12
        try clear p14
        try clear p145
        try clear p150
        try clear p151
        try clear p2
        try clear p6
        try clear q1
        try clear q12
        try clear q14
        try clear q145
        try clear q150
        try clear q151
        try clear q26
        obtain ⟨x3_4, x6_4, x8_4, rfl, HA, HK4, HO_3, HO_6, HO_7, HB⟩ := hrel
        have hl3_4 := (Kd.R_reads' HO_3.out).1
        rw [hl3_4] at HO_3
        (try simp only [hl3_4])
        (try simp only [hl3_4] at HO_6)
        (try simp only [hl3_4] at HO_7)
        cases gk with
        | zero => exact absurd HA.out (by simp [spec_l02Parts.l3])
        | succ k4 =>
         have H := HA.out
         clear HA
         simp only [spec_l02Parts.l3] at H
         by_cases c27 : x8_4 < 4
         rotate_left
         ·rw [if_neg c27] at H
          have c27b0 : decide (x8_4 < 4) = false := decide_eq_false c27
          clear c27
          have H' := aM H
          clear H
          go_wp2
          (try simp only [← hl3_3, ← hl3_4])
          go_roundg k4
          case measure => have := HK1.out; have := HK2.out; have := HK3.out; have := HK4.out; omega
          case rel => exact ⟨(x3_4), (x6_4), H', ⟨by have := HK1.out; have := HK2.out; have := HK3.out; have := HK4.out; omega⟩, ⟨by (try simp only [hl3_3]); (try simp only [hl3_4]); (with_reducible repeat (first | apply Kd.R_alloc | apply Kd.R_drewN | apply Kd.R_drew)); exact HO_3.out⟩, ⟨by (try simp only [hl3_3]); (try simp only [hl3_4]); (with_reducible repeat (first | apply Kd.Q_alloc | apply Kd.Q_drewN | apply Kd.Q_drew)); exact HO_6.out⟩, ⟨zb⟩⟩
         rw [if_pos c27] at H
         have c27b0 : decide (x8_4 < 4) = true := decide_eq_true c27
         clear c27
         by_cases c28 : 0 ≤ x8_4
         rotate_left
         ·rw [if_neg c28] at H
          exact absurd H (by simp)
         rw [if_pos c28] at H
         have c28b0 : decide (0 ≤ x8_4) = true := decide_eq_true c28
         clear c28
         by_cases c29 : x8_4 < (t152.length : Int)
         rotate_left
         ·rw [if_neg c29] at H
          exact absurd H (by simp)
         rw [if_pos c29] at H
         have c29b0 : decide (x8_4 < (t152.length : Int)) = true := decide_eq_true c29
         clear c29
         replace H := Option.bind_eq_some_iff.mp H
         obtain ⟨t159, A300, H⟩ := H
         replace H : (if t159 ≥ 0 then (if 0 ≤ t159 then (if t159 < (x3_4.length : Int) then (if (rd x3_4 t159) < 0 then (if x6_4.length < 17592186044416 then (spec_l02Parts.l3 k4 l0 (x3_4.set (t159 : Int).toNat x5_2) x5_2 (x6_4 ++ [t159]) t152 (wrap64 (x8_4 + 1))) else (none)) else (spec_l02Parts.l3 k4 l0 x3_4 x5_2 x6_4 t152 (wrap64 (x8_4 + 1)))) else (none)) else (none)) else (spec_l02Parts.l3 k4 l0 x3_4 x5_2 x6_4 t152 (wrap64 (x8_4 + 1)))) = some r := H
         have A30 := aM A300
         clear A300
         by_cases c31 : t159 ≥ 0
         rotate_left
         ·rw [if_neg c31] at H
          have c31b0 : decide (0 ≤ t159) = false := decide_eq_false c31
          clear c31
          have H' := aM H
          clear H
          obtain ⟨Ao44, co44, eo44⟩ := Kd.R_slice HO_7.out
          subst eo44
          have p158 : 0 ≤ (x8_4 : Int) := of_decide_eq_true za
          have q158 : x8_4 < (t152.length : Int) := of_decide_eq_true za
          obtain ⟨ad158, e158, hx158_0, hx158_1⟩ := at_T82 (Kd.R_reads' HO_7.out).2.2 x8_4 p158 q158
          cases e158
          replace p158 := eq_true p158
          replace q158 := eq_true q158
          go_wp2_with (first | ((with_reducible refine gate_callee (f := 59) rfl ?_); refine goesL_ (some 58) rfl rfl Tryz.func59 (by kernel_rfl) rfl #[.slice (some ad151) l0.length c0, .agg #[.int .i64 ((rd_T82 t152 x8_4).f0), .int .i64 ((rd_T82 t152 x8_4).f1)]] rfl zm ?_; (with_reducible refine (spec_l02Index.calls k4 _ _ l0 ((rd_T82 t152 x8_4).f0) ((rd_T82 t152 x8_4).f1) t159 _ ?side1 ?side2 A30.out).mono ?_); (case side1 => repeat (first | exact (Kd.C_below HR0.out HB.out) | (with_reducible refine Kd.C_alloc ?_ _) | (with_reducible refine Kd.C_drewN ?_ _) | (with_reducible refine Kd.C_drew ?_))); (case side2 => exact HC0.out); rintro e w45 ⟨rfl, hb⟩; refine ⟨_, rfl, ?_⟩; have _ := aM (Kd.R_below (mR_ HO_3.out) hb); have _ := aM (Kd.Q_below (by (with_reducible repeat (first | apply Kd.Q_alloc | apply Kd.Q_drewN | apply Kd.Q_drew)); exact HO_6.out) hb); have _ := aM (Kd.R_below (mR_ HO_7.out) hb); have _ := aM (below_step zb hb); clear HO_3 HO_6 HO_7 HB; rename_i HO_3 HO_6 HO_7 HB; (try clear hb); (try clear hb2); (try clear hk); (try clear hi)))
          (try simp only [← hl3_4])
          go_roundg k4
          case measure => have := HK1.out; have := HK2.out; have := HK3.out; have := HK4.out; omega
          case rel => exact ⟨(x3_4), (x6_4), (wrap64 (x8_4 + 1)), zr, H', ⟨by have := HK1.out; have := HK2.out; have := HK3.out; have := HK4.out; omega⟩, ⟨by (try simp only [hl3_3]); (try simp only [hl3_4]); (with_reducible repeat (first | apply Kd.R_alloc | apply Kd.R_drewN | apply Kd.R_drew)); exact HO_3.out⟩, ⟨by (try simp only [hl3_3]); (try simp only [hl3_4]); (with_reducible repeat (first | apply Kd.Q_alloc | apply Kd.Q_drewN | apply Kd.Q_drew)); exact HO_6.out⟩, ⟨by (try simp only [hl3_3]); (try simp only [hl3_4]); (with_reducible repeat (first | apply Kd.R_alloc | apply Kd.R_drewN | apply Kd.R_drew)); exact HO_7.out⟩, ⟨zb⟩⟩
         rw [if_pos c31] at H
         have c31b0 : decide (0 ≤ t159) = true := decide_eq_true c31
         clear c31
         by_cases c32 : 0 ≤ t159
         rotate_left
         ·rw [if_neg c32] at H
          exact absurd H (by simp)
         rw [if_pos c32] at H
         have c32b0 : decide (0 ≤ t159) = true := decide_eq_true c32
         clear c32
         by_cases c33 : t159 < (x3_4.length : Int)
         rotate_left
         ·rw [if_neg c33] at H
          exact absurd H (by simp)
         rw [if_pos c33] at H
         have c33b0 : decide (t159 < (x3_4.length : Int)) = true := decide_eq_true c33
         clear c33
         by_cases c34 : (rd x3_4 t159) < 0
         rotate_left
         ·rw [if_neg c34] at H
          have c34b0 : decide ((rd x3_4 t159) < 0) = false := decide_eq_false c34
          clear c34
          have H' := aM H
          clear H
          obtain ⟨Ao42, co42, eo42⟩ := Kd.R_slice HO_7.out
          subst eo42
          have p158 : 0 ≤ (x8_4 : Int) := of_decide_eq_true za
          have q158 : x8_4 < (t152.length : Int) := of_decide_eq_true za
          obtain ⟨ad158, e158, hx158_0, hx158_1⟩ := at_T82 (Kd.R_reads' HO_7.out).2.2 x8_4 p158 q158
          cases e158
          replace p158 := eq_true p158
          replace q158 := eq_true q158
          go_wp2_with (first | ((with_reducible refine gate_callee (f := 59) rfl ?_); refine goesL_ (some 58) rfl rfl Tryz.func59 (by kernel_rfl) rfl #[.slice (some ad151) l0.length c0, .agg #[.int .i64 ((rd_T82 t152 x8_4).f0), .int .i64 ((rd_T82 t152 x8_4).f1)]] rfl zm ?_; (with_reducible refine (spec_l02Index.calls k4 _ _ l0 ((rd_T82 t152 x8_4).f0) ((rd_T82 t152 x8_4).f1) t159 _ ?side1 ?side2 A30.out).mono ?_); (case side1 => repeat (first | exact (Kd.C_below HR0.out HB.out) | (with_reducible refine Kd.C_alloc ?_ _) | (with_reducible refine Kd.C_drewN ?_ _) | (with_reducible refine Kd.C_drew ?_))); (case side2 => exact HC0.out); rintro e w43 ⟨rfl, hb⟩; refine ⟨_, rfl, ?_⟩; have _ := aM (Kd.R_below (mR_ HO_3.out) hb); have _ := aM (Kd.Q_below (by (with_reducible repeat (first | apply Kd.Q_alloc | apply Kd.Q_drewN | apply Kd.Q_drew)); exact HO_6.out) hb); have _ := aM (Kd.R_below (mR_ HO_7.out) hb); have _ := aM (below_step zb hb); clear HO_3 HO_6 HO_7 HB; rename_i HO_3 HO_6 HO_7 HB; (try clear hb); (try clear hb2); (try clear hk); (try clear hi); have p160 : 0 ≤ (t159 : Int) := of_decide_eq_true za; have q160 : t159 < (x3_4.length : Int) := of_decide_eq_true za; obtain ⟨ad160, e160, hx160_0⟩ := Kd.at_int (Kd.R_reads' HO_3.out).2.2 t159 p160 q160; obtain rfl : (⟨go12, 0, none⟩ : Addr) = ad160 := (by injection e160); (first | simp only [add_plain] at hx160_0 | simp only [add_at] at hx160_0 | simp only [Addr.add, Nat.zero_add] at hx160_0 | skip); replace p160 := eq_true p160; replace q160 := eq_true q160))
          (try simp only [← hl3_4])
          go_roundg k4
          case measure => have := HK1.out; have := HK2.out; have := HK3.out; have := HK4.out; omega
          case rel => exact ⟨(x3_4), (x6_4), (wrap64 (x8_4 + 1)), zr, H', ⟨by have := HK1.out; have := HK2.out; have := HK3.out; have := HK4.out; omega⟩, ⟨by (try simp only [hl3_3]); (try simp only [hl3_4]); (with_reducible repeat (first | apply Kd.R_alloc | apply Kd.R_drewN | apply Kd.R_drew)); exact HO_3.out⟩, ⟨by (try simp only [hl3_3]); (try simp only [hl3_4]); (with_reducible repeat (first | apply Kd.Q_alloc | apply Kd.Q_drewN | apply Kd.Q_drew)); exact HO_6.out⟩, ⟨by (try simp only [hl3_3]); (try simp only [hl3_4]); (with_reducible repeat (first | apply Kd.R_alloc | apply Kd.R_drewN | apply Kd.R_drew)); exact HO_7.out⟩, ⟨zb⟩⟩
         rw [if_pos c34] at H
         have c34b0 : decide ((rd x3_4 t159) < 0) = true := decide_eq_true c34
         clear c34
         obtain ⟨y161, hy161⟩ : ∃ y_ : List Int, y_ = (x3_4.set (t159 : Int).toNat x5_2) := ⟨_, rfl⟩
         replace H : (if x6_4.length < 17592186044416 then (spec_l02Parts.l3 k4 l0 y161 x5_2 (x6_4 ++ [t159]) t152 (wrap64 (x8_4 + 1))) else (none)) = some r := zy H hy161
         have Ny161 := aM hy161
         clear hy161
         by_cases c36 : x6_4.length < 17592186044416
         rotate_left
         ·rw [if_neg c36] at H
          exact absurd H (by simp)
         rw [if_pos c36] at H
         have LMc36 := aM c36
         clear c36
         obtain ⟨y162, hy162⟩ : ∃ y_ : List Int, y_ = (x6_4 ++ [t159]) := ⟨_, rfl⟩
         replace H : (spec_l02Parts.l3 k4 l0 y161 x5_2 y162 t152 (wrap64 (x8_4 + 1))) = some r := zy H hy162
         have Ny162 := aM hy162
         clear hy162
         have H' := aM H
         clear H
         obtain ⟨Ao37, co37, eo37⟩ := Kd.R_slice HO_7.out
         subst eo37
         have p158 : 0 ≤ (x8_4 : Int) := of_decide_eq_true za
         have q158 : x8_4 < (t152.length : Int) := of_decide_eq_true za
         obtain ⟨ad158, e158, hx158_0, hx158_1⟩ := at_T82 (Kd.R_reads' HO_7.out).2.2 x8_4 p158 q158
         cases e158
         replace p158 := eq_true p158
         replace q158 := eq_true q158
         go_wp2_with (first | ((with_reducible refine gate_callee (f := 59) rfl ?_); refine goesL_ (some 58) rfl rfl Tryz.func59 (by kernel_rfl) rfl #[.slice (some ad151) l0.length c0, .agg #[.int .i64 ((rd_T82 t152 x8_4).f0), .int .i64 ((rd_T82 t152 x8_4).f1)]] rfl zm ?_; (with_reducible refine (spec_l02Index.calls k4 _ _ l0 ((rd_T82 t152 x8_4).f0) ((rd_T82 t152 x8_4).f1) t159 _ ?side1 ?side2 A30.out).mono ?_); (case side1 => repeat (first | exact (Kd.C_below HR0.out HB.out) | (with_reducible refine Kd.C_alloc ?_ _) | (with_reducible refine Kd.C_drewN ?_ _) | (with_reducible refine Kd.C_drew ?_))); (case side2 => exact HC0.out); rintro e w38 ⟨rfl, hb⟩; refine ⟨_, rfl, ?_⟩; have _ := aM (Kd.R_below (mR_ HO_3.out) hb); have _ := aM (Kd.Q_below (by (with_reducible repeat (first | apply Kd.Q_alloc | apply Kd.Q_drewN | apply Kd.Q_drew)); exact HO_6.out) hb); have _ := aM (Kd.R_below (mR_ HO_7.out) hb); have _ := aM (below_step zb hb); clear HO_3 HO_6 HO_7 HB; rename_i HO_3 HO_6 HO_7 HB; (try clear hb); (try clear hb2); (try clear hk); (try clear hi); have p160 : 0 ≤ (t159 : Int) := of_decide_eq_true za; have q160 : t159 < (x3_4.length : Int) := of_decide_eq_true za; obtain ⟨ad160, e160, hx160_0⟩ := Kd.at_int (Kd.R_reads' HO_3.out).2.2 t159 p160 q160; obtain rfl : (⟨go12, 0, none⟩ : Addr) = ad160 := (by injection e160); (first | simp only [add_plain] at hx160_0 | simp only [add_at] at hx160_0 | simp only [Addr.add, Nat.zero_add] at hx160_0 | skip); replace p160 := eq_true p160; replace q160 := eq_true q160; have p35 : 0 ≤ (t159 : Int) := of_decide_eq_true za; have q35 : (t159 : Int) < ((x3_4.length : Int) : Int) := of_decide_eq_true za; obtain ⟨hx35_0, hf35_0⟩ := Kd.R_celln 0 HO_3.out (t159 : Int) p35 q35; replace p35 := eq_true p35; replace q35 := eq_true q35; obtain ⟨hy39_, hz39_⟩ := Kd.R_celln 0 HO_3.out (t159 : Int) (of_decide_eq_true za) (of_decide_eq_true za); have HP39 := Kd.R_putg HO_3.out (t159 : Int) x5_2) | ((with_reducible refine gate_store (t := 2) (p := 71) rfl ?_); refine store_event (t := 2) (p := 71) (v := ?vo_w40) (w1 := (w38.setCell ⟨go12, (t159 : Int).toNat, none⟩ (.int .i64 x5_2))) ?hg ?ho ?hn ?hr ?_; (case ho => rfl); (case hg => rfl); (case hn => rfl); (case hr => first | (go_simp; done) | (go_simp; rfl)); intro w40 hw; have hg : w38.grownBy w40 (some go12) := (by rw [hw]; exact HP39.2); have hp_ : Kd.R (Kd.int .i64) 2 w40 w.heap.size (fun k_ => some k_ ≠ (u6 : Value).ownBlock) (.slice (some ⟨go12, 0, none⟩) x3_4.length co13) y161 := (by rw [hw, Ny161.out]; exact HP39.1); clear HP39; have _ := aM (hp_); have _ := aM (Kd.Q_after (v := (.slice (some ⟨go12, 0, none⟩) x3_4.length co13)) (v1 := (.slice (some ⟨go12, 0, none⟩) x3_4.length co13)) (ok := (fun _ => True)) (by (with_reducible repeat (first | apply Kd.Q_alloc | apply Kd.Q_drewN | apply Kd.Q_drew)); exact Kd.Q_mono HO_6.out (fun _ hk => ⟨trivial, hk⟩)) hg (.inl rfl)); have _ := aM (Kd.R_over' (v := (.slice (some ⟨go12, 0, none⟩) x3_4.length co13)) (mR_ HO_7.out) (Kd.R_typed HO_3.out) (by decide) hg); have _ := aM ((by rw [hw]; exact below_set (HB.out) GB12.out : Below w.heap.size w w40)); clear HO_3 HO_6 HO_7 HB; rename_i HO_3 HO_6 HO_7 HB; clear hg hw hp_) | ((with_reducible refine gate_builtin (b := .append) (xs := #[.tmp 72, .tmp 74]) rfl ?_); at_builtin; refine Kd.Q_append (Kd.int .i64) (w0 := w) w.heap.size rfl (.tmp 72) (.tmp 74) 120 2 (.int .i64 0) 8 rfl Tryz.underlying120 info2 rfl (by decide) (by omega) u6 x6_4 t159 [.int .i64 t159] (fun k_ => some k_ ≠ (.slice (some ⟨go12, 0, none⟩) x3_4.length co13 : Value).ownBlock) (fun _ => False) rfl rfl ?aP (fun _ hk => hk.elim) ?aF ?aO ?aB ?aS ?aL ?_; (case aP => exact rfl); (case aB => exact zb); (case aF => exact (fun k_ hk => Kd.fresh' (Kd.R_lt (mR_ HO_3.out)) k_ hk)); (case aO => exact (by (with_reducible repeat (first | apply Kd.Q_alloc | apply Kd.Q_drewN | apply Kd.Q_drew)); exact Kd.Q_mono HO_6.out (fun _ hk => hk.2))); (case aS => exact (below_size zb)); (case aL => have := LMc36.out; omega); intro v163 w41 ho hb hg hat; rw [← Ny162.out] at ho; have _ := aM (Kd.R_after (ok := (fun _ => True)) (zd2 HO_3.out) hg hat); have _ := aM (Kd.R_over' (mR_ HO_7.out) (Kd.Q_typed (by (with_reducible repeat (first | apply Kd.Q_alloc | apply Kd.Q_drewN | apply Kd.Q_drew)); exact HO_6.out)) (by decide) hg); have _ := aM (hb); have _ := aM (ho); clear HO_3 HO_7 HB HO_6; rename_i HO_3 HO_7 HB HO164; clear ho hb hg hat))
         (try simp only [← hl3_4])
         go_roundg k4
         case measure => have := HK1.out; have := HK2.out; have := HK3.out; have := HK4.out; omega
         case rel => exact ⟨(y161), (y162), (wrap64 (x8_4 + 1)), zr, H', ⟨by have := HK1.out; have := HK2.out; have := HK3.out; have := HK4.out; omega⟩, ⟨by (try simp only [hl3_3]); (try simp only [hl3_4]); (with_reducible repeat (first | apply Kd.R_alloc | apply Kd.R_drewN | apply Kd.R_drew)); exact Kd.R_mono HO_3.out (fun _ hk => hk.2)⟩, ⟨by (try simp only [hl3_3]); (try simp only [hl3_4]); (with_reducible repeat (first | apply Kd.Q_alloc | apply Kd.Q_drewN | apply Kd.Q_drew)); exact HO164.out⟩, ⟨by (try simp only [hl3_3]); (try simp only [hl3_4]); (with_reducible repeat (first | apply Kd.R_alloc | apply Kd.R_drewN | apply Kd.R_drew)); exact HO_7.out⟩, ⟨zb⟩⟩
def spec_IsConnected.f (k : Nat) (l0 : List (S82)) : Option (Bool) := (spec_IsShape.f k l0).bind fun t165 => (if t165 = true then ((spec_l02Parts.f k l0).bind fun t166 => ((spec_l02One.f k t166).bind fun t169 => (some t169))) else (some false))
theorem spec_IsConnected.calls (k : Nat) (A0 : Option Addr) (c0 : Nat) (l0 : List (S82)) (r : Bool) (w : World) (hr0 : Kd.C k82 w A0 l0.length l0) (hc0 : l0.length ≤ c0) (h : spec_IsConnected.f k l0 = some r) :
  Calls Tryz.prog 84 #[.slice A0 l0.length c0] w fun e w' => e = .returned (.bool r) ∧ Below w.heap.size w w' := by
 have HR0 := aM hr0
 have HC0 := aM hc0
 clear hr0 hc0
 have HB := aM (Below.refl w.heap.size w)
 have H : ((spec_IsShape.f k l0).bind fun t165 => (if t165 = true then ((spec_l02Parts.f k l0).bind fun t166 => ((spec_l02One.f k t166).bind fun t169 => (some t169))) else (some false))) = some r := h
 clear h
 replace H := Option.bind_eq_some_iff.mp H
 obtain ⟨t165, A20, H⟩ := H
 replace H : (if t165 = true then ((spec_l02Parts.f k l0).bind fun t166 => ((spec_l02One.f k t166).bind fun t169 => (some t169))) else (some false)) = some r := H
 have A2 := aM A20
 clear A20
 by_cases c3 : t165 = true
 rotate_left
 ·replace c3 := Bool.eq_false_iff.mpr c3
  subst c3
  have H1 : (some false) = some r := by rw [if_neg (show ¬ (false = true) by decide)] at H; exact H
  clear H
  have H := H1
  clear H1
  obtain rfl := Option.some.inj H
  go_enter Tryz.func84, Tryz.ntmps84
  go_wp2_with (first | ((with_reducible refine gate_callee (f := 66) rfl ?_); refine goesL_ (some 4) rfl rfl Tryz.func66 (by kernel_rfl) rfl #[.slice A0 l0.length c0] rfl zm ?_; (with_reducible refine (spec_IsShape.calls k _ _ l0 false _ ?side1 ?side2 A2.out).mono ?_); (case side1 => repeat (first | exact HR0.out | (with_reducible refine Kd.C_alloc ?_ _) | (with_reducible refine Kd.C_drewN ?_ _) | (with_reducible refine Kd.C_drew ?_))); (case side2 => exact HC0.out); rintro e w9 ⟨rfl, hb⟩; refine ⟨_, rfl, ?_⟩; have _ := aM (below_step zb hb); clear HB; rename_i HB; (try clear hb); (try clear hb2); (try clear hk); (try clear hi)))
  go_ret
  exact ⟨zw, zb⟩
 subst c3
 have H1 : ((spec_l02Parts.f k l0).bind fun t166 => ((spec_l02One.f k t166).bind fun t169 => (some t169))) = some r := by rw [if_pos rfl] at H; exact H
 clear H
 have H := H1
 clear H1
 replace H := Option.bind_eq_some_iff.mp H
 obtain ⟨t166, A40, H⟩ := H
 replace H : ((spec_l02One.f k t166).bind fun t169 => (some t169)) = some r := H
 have A4 := aM A40
 clear A40
 replace H := Option.bind_eq_some_iff.mp H
 obtain ⟨t169, A50, H⟩ := H
 replace H : (some t169) = some r := H
 have A5 := aM A50
 clear A50
 obtain rfl := Option.some.inj H
 go_enter Tryz.func84, Tryz.ntmps84
 go_wp2_with (first | ((with_reducible refine gate_callee (f := 66) rfl ?_); refine goesL_ (some 4) rfl rfl Tryz.func66 (by kernel_rfl) rfl #[.slice A0 l0.length c0] rfl zm ?_; (with_reducible refine (spec_IsShape.calls k _ _ l0 true _ ?side1 ?side2 A2.out).mono ?_); (case side1 => repeat (first | exact HR0.out | (with_reducible refine Kd.C_alloc ?_ _) | (with_reducible refine Kd.C_drewN ?_ _) | (with_reducible refine Kd.C_drew ?_))); (case side2 => exact HC0.out); rintro e w6 ⟨rfl, hb⟩; refine ⟨_, rfl, ?_⟩; have _ := aM (below_step zb hb); clear HB; rename_i HB; (try clear hb); (try clear hb2); (try clear hk); (try clear hi)) | ((with_reducible refine gate_callee (f := 116) rfl ?_); refine goesL_ (some 7) rfl rfl Tryz.func116 (by kernel_rfl) rfl #[.slice A0 l0.length c0] rfl zm ?_; (with_reducible refine (spec_l02Parts.calls k _ _ l0 t166 _ ?side1 ?side2 A4.out).mono ?_); (case side1 => repeat (first | exact (Kd.C_below HR0.out HB.out) | (with_reducible refine Kd.C_alloc ?_ _) | (with_reducible refine Kd.C_drewN ?_ _) | (with_reducible refine Kd.C_drew ?_))); (case side2 => exact HC0.out); rintro e w7 ⟨v167, rfl, ho0, hb⟩; refine ⟨_, rfl, ?_⟩; have _ := aM (Kd.R_lower ho0 (below_size zb)); have _ := aM (below_step zb hb); clear HB; rename_i HO168 HB; (try clear hb); (try clear hb2); (try clear hk); (try clear hi); (try clear ho0); obtain ⟨Ao8, co8, eo8⟩ := Kd.R_slice HO168.out; subst eo8) | ((with_reducible refine gate_callee (f := 115) rfl ?_); refine goesL_ (some 8) rfl rfl Tryz.func115 (by kernel_rfl) rfl #[.slice Ao8 t166.length co8] rfl zm ?_; (with_reducible refine (spec_l02One.calls k _ _ t166 t169 _ ?side1 ?side2 A5.out).mono ?_); (case side1 => exact zc HO168.out); (case side2 => exact (Kd.R_reads' HO168.out).2.1); rintro e w' ⟨rfl, ⟨nd, rfl⟩⟩; refine ⟨_, rfl, ?_⟩))
 go_ret
 exact ⟨zw, zb⟩
def spec_IsPiece.f (k : Nat) (l0_0 : List (S82)) (a0_1 : Int) (a0_2 : Bool) : Option (Bool) := (spec_IsRegion.f k l0_0).bind fun t171 => (if t171 = true then ((spec_IsConnected.f k l0_0).bind fun t172 => (if t172 = true then ((spec_l01In.f a0_1 1 8).bind fun t173 => (some t173)) else (some false))) else (some false))
theorem spec_IsPiece.calls (k : Nat) (A0_0 : Option Addr) (c0_0 : Nat) (l0_0 : List (S82)) (a0_1 : Int) (a0_2 : Bool) (r : Bool) (w : World) (hr0_0 : Kd.C k82 w A0_0 l0_0.length l0_0) (hc0_0 : l0_0.length ≤ c0_0) (h : spec_IsPiece.f k l0_0 a0_1 a0_2 = some r) :
  Calls Tryz.prog 55 #[.agg #[.slice A0_0 l0_0.length c0_0, .int .i64 a0_1, .bool a0_2]] w fun e w' => e = .returned (.bool r) ∧ Below w.heap.size w w' := by
 have hu50 := Tryz.underlying50
 have HR0_0 := aM hr0_0
 have HC0_0 := aM hc0_0
 clear hr0_0 hc0_0
 have HB := aM (Below.refl w.heap.size w)
 have H : ((spec_IsRegion.f k l0_0).bind fun t171 => (if t171 = true then ((spec_IsConnected.f k l0_0).bind fun t172 => (if t172 = true then ((spec_l01In.f a0_1 1 8).bind fun t173 => (some t173)) else (some false))) else (some false))) = some r := h
 clear h
 replace H := Option.bind_eq_some_iff.mp H
 obtain ⟨t171, A20, H⟩ := H
 replace H : (if t171 = true then ((spec_IsConnected.f k l0_0).bind fun t172 => (if t172 = true then ((spec_l01In.f a0_1 1 8).bind fun t173 => (some t173)) else (some false))) else (some false)) = some r := H
 have A2 := aM A20
 clear A20
 by_cases c3 : t171 = true
 rotate_left
 ·replace c3 := Bool.eq_false_iff.mpr c3
  subst c3
  have H1 : (some false) = some r := by rw [if_neg (show ¬ (false = true) by decide)] at H; exact H
  clear H
  have H := H1
  clear H1
  obtain rfl := Option.some.inj H
  go_enter Tryz.func55, Tryz.ntmps55
  go_wp2_with (first | ((with_reducible refine gate_dst (N := 1) rfl ?_); refine zx 1 #[.slice A0_0 l0_0.length c0_0, .int .i64 a0_1, .bool a0_2] 50 ?_; intro gb170 hg w18 hbox hb; have _ := aM (below_step zb hb); have _ := aM (hbox); have _ := aM ((ze : w.heap.size ≤ gb170)); have _ := aM ((ze : w.heap.size ≤ gb170)); clear HB; rename_i HB BK170 GW170 GE170; clear hb hbox hg; obtain ⟨hcz19_0, hcz19_1, hcz19_2, hfz19_0, hfz19_1, hfz19_2⟩ := zQ3 BK170.out) | ((with_reducible refine gate_callee (f := 53) rfl ?_); refine goesL_ (some 5) rfl rfl Tryz.func53 (by kernel_rfl) rfl #[.slice A0_0 l0_0.length c0_0] rfl zm ?_; (with_reducible refine (spec_IsRegion.calls k _ _ l0_0 false _ ?side1 ?side2 A2.out).mono ?_); (case side1 => repeat (first | exact (Kd.C_below HR0_0.out HB.out) | (with_reducible refine Kd.C_alloc ?_ _) | (with_reducible refine Kd.C_drewN ?_ _) | (with_reducible refine Kd.C_drew ?_))); (case side2 => exact HC0_0.out); rintro e w20 ⟨rfl, hb⟩; refine ⟨_, rfl, ?_⟩; have _ := aM (blk_below (g := gb170) (o := .cells #[.slice A0_0 l0_0.length c0_0, .int .i64 a0_1, .bool a0_2] 50 (0, 0)) (mB_ BK170.out) hb); have _ := aM (below_step (zs GE170.out) hb); clear BK170 HB; rename_i BK170 HB; (try clear hb); (try clear hb2); (try clear hk); (try clear hi)))
  go_ret
  exact ⟨zw, zs GE170.out⟩
 subst c3
 have H1 : ((spec_IsConnected.f k l0_0).bind fun t172 => (if t172 = true then ((spec_l01In.f a0_1 1 8).bind fun t173 => (some t173)) else (some false))) = some r := by rw [if_pos rfl] at H; exact H
 clear H
 have H := H1
 clear H1
 replace H := Option.bind_eq_some_iff.mp H
 obtain ⟨t172, A40, H⟩ := H
 replace H : (if t172 = true then ((spec_l01In.f a0_1 1 8).bind fun t173 => (some t173)) else (some false)) = some r := H
 have A4 := aM A40
 clear A40
 by_cases c5 : t172 = true
 rotate_left
 ·replace c5 := Bool.eq_false_iff.mpr c5
  subst c5
  have H1 : (some false) = some r := by rw [if_neg (show ¬ (false = true) by decide)] at H; exact H
  clear H
  have H := H1
  clear H1
  obtain rfl := Option.some.inj H
  go_enter Tryz.func55, Tryz.ntmps55
  go_wp2_with (first | ((with_reducible refine gate_dst (N := 1) rfl ?_); refine zx 1 #[.slice A0_0 l0_0.length c0_0, .int .i64 a0_1, .bool a0_2] 50 ?_; intro gb170 hg w13 hbox hb; have _ := aM (below_step zb hb); have _ := aM (hbox); have _ := aM ((ze : w.heap.size ≤ gb170)); have _ := aM ((ze : w.heap.size ≤ gb170)); clear HB; rename_i HB BK170 GW170 GE170; clear hb hbox hg; obtain ⟨hcz14_0, hcz14_1, hcz14_2, hfz14_0, hfz14_1, hfz14_2⟩ := zQ3 BK170.out) | ((with_reducible refine gate_callee (f := 53) rfl ?_); refine goesL_ (some 5) rfl rfl Tryz.func53 (by kernel_rfl) rfl #[.slice A0_0 l0_0.length c0_0] rfl zm ?_; (with_reducible refine (spec_IsRegion.calls k _ _ l0_0 true _ ?side1 ?side2 A2.out).mono ?_); (case side1 => repeat (first | exact (Kd.C_below HR0_0.out HB.out) | (with_reducible refine Kd.C_alloc ?_ _) | (with_reducible refine Kd.C_drewN ?_ _) | (with_reducible refine Kd.C_drew ?_))); (case side2 => exact HC0_0.out); rintro e w15 ⟨rfl, hb⟩; refine ⟨_, rfl, ?_⟩; have _ := aM (blk_below (g := gb170) (o := .cells #[.slice A0_0 l0_0.length c0_0, .int .i64 a0_1, .bool a0_2] 50 (0, 0)) (mB_ BK170.out) hb); have _ := aM (below_step (zs GE170.out) hb); clear BK170 HB; rename_i BK170 HB; (try clear hb); (try clear hb2); (try clear hk); (try clear hi); obtain ⟨hcz16_0, hcz16_1, hcz16_2, hfz16_0, hfz16_1, hfz16_2⟩ := zQ3 BK170.out) | (go_at_call 84; (with_reducible refine (spec_IsConnected.calls k _ _ l0_0 false _ ?side1 ?side2 A4.out).mono ?_); (case side1 => repeat (first | exact (Kd.C_below HR0_0.out HB.out) | (with_reducible refine Kd.C_alloc ?_ _) | (with_reducible refine Kd.C_drewN ?_ _) | (with_reducible refine Kd.C_drew ?_))); (case side2 => exact HC0_0.out); rintro e w17 ⟨rfl, hb⟩; have _ := aM (blk_below (g := gb170) (o := .cells #[.slice A0_0 l0_0.length c0_0, .int .i64 a0_1, .bool a0_2] 50 (0, 0)) (mB_ BK170.out) hb); have _ := aM (below_step (zs GE170.out) hb); clear BK170 HB; rename_i BK170 HB; (try clear hb); (try clear hb2); (try clear hk); (try clear hi)))
  go_ret
  exact ⟨zw, zs GE170.out⟩
 subst c5
 have H1 : ((spec_l01In.f a0_1 1 8).bind fun t173 => (some t173)) = some r := by rw [if_pos rfl] at H; exact H
 clear H
 have H := H1
 clear H1
 replace H := Option.bind_eq_some_iff.mp H
 obtain ⟨t173, A60, H⟩ := H
 replace H : (some t173) = some r := H
 have A6 := aM A60
 clear A60
 obtain rfl := Option.some.inj H
 go_enter Tryz.func55, Tryz.ntmps55
 go_wp2_with (first | ((with_reducible refine gate_dst (N := 1) rfl ?_); refine zx 1 #[.slice A0_0 l0_0.length c0_0, .int .i64 a0_1, .bool a0_2] 50 ?_; intro gb170 hg w7 hbox hb; have _ := aM (below_step zb hb); have _ := aM (hbox); have _ := aM ((ze : w.heap.size ≤ gb170)); have _ := aM ((ze : w.heap.size ≤ gb170)); clear HB; rename_i HB BK170 GW170 GE170; clear hb hbox hg; obtain ⟨hcz8_0, hcz8_1, hcz8_2, hfz8_0, hfz8_1, hfz8_2⟩ := zQ3 BK170.out) | ((with_reducible refine gate_callee (f := 53) rfl ?_); refine goesL_ (some 5) rfl rfl Tryz.func53 (by kernel_rfl) rfl #[.slice A0_0 l0_0.length c0_0] rfl zm ?_; (with_reducible refine (spec_IsRegion.calls k _ _ l0_0 true _ ?side1 ?side2 A2.out).mono ?_); (case side1 => repeat (first | exact (Kd.C_below HR0_0.out HB.out) | (with_reducible refine Kd.C_alloc ?_ _) | (with_reducible refine Kd.C_drewN ?_ _) | (with_reducible refine Kd.C_drew ?_))); (case side2 => exact HC0_0.out); rintro e w9 ⟨rfl, hb⟩; refine ⟨_, rfl, ?_⟩; have _ := aM (blk_below (g := gb170) (o := .cells #[.slice A0_0 l0_0.length c0_0, .int .i64 a0_1, .bool a0_2] 50 (0, 0)) (mB_ BK170.out) hb); have _ := aM (below_step (zs GE170.out) hb); clear BK170 HB; rename_i BK170 HB; (try clear hb); (try clear hb2); (try clear hk); (try clear hi); obtain ⟨hcz10_0, hcz10_1, hcz10_2, hfz10_0, hfz10_1, hfz10_2⟩ := zQ3 BK170.out) | (go_at_call 84; (with_reducible refine (spec_IsConnected.calls k _ _ l0_0 true _ ?side1 ?side2 A4.out).mono ?_); (case side1 => repeat (first | exact (Kd.C_below HR0_0.out HB.out) | (with_reducible refine Kd.C_alloc ?_ _) | (with_reducible refine Kd.C_drewN ?_ _) | (with_reducible refine Kd.C_drew ?_))); (case side2 => exact HC0_0.out); rintro e w11 ⟨rfl, hb⟩; have _ := aM (blk_below (g := gb170) (o := .cells #[.slice A0_0 l0_0.length c0_0, .int .i64 a0_1, .bool a0_2] 50 (0, 0)) (mB_ BK170.out) hb); have _ := aM (below_step (zs GE170.out) hb); clear BK170 HB; rename_i BK170 HB; (try clear hb); (try clear hb2); (try clear hk); (try clear hi); obtain ⟨hcz12_0, hcz12_1, hcz12_2, hfz12_0, hfz12_1, hfz12_2⟩ := zQ3 BK170.out) | (go_at_call 54; (with_reducible refine (spec_l01In.calls a0_1 1 8 t173 _ A6.out).mono ?_); rintro e w' ⟨rfl, ⟨nd, rfl⟩⟩))
 go_ret
 exact ⟨zw, zs GE170.out⟩
end Go.Proofs.YtipafadbhmngnaaGreatDoor.F
end
section
namespace Go.Proofs.YtipafadbhmngnaaGreatDoor.F
open Go.RowKit Go.Proofs.YtipafadbhmngnaaGreatDoorW.PrintWords Go.Proofs.YtipafadbhmngnaaGreatDoorW.PrintLast Go.Proofs.YtipafadbhmngnaaGreatDoorW.PrintMore
attribute [local go_sem] max2_int min2_int max_two min_two max_three min_three max_four min_four
set_option linter.unusedVariables false
set_option linter.unusedSimpArgs false
def spec_CompareShapes.l0 : Nat → List (S82) → List (S82) → Int → Option (Int)
 | 0, _, _, _ => none
 | k + 1, x0, x1, x5 => if x5 < (x0.length : Int) then (if 0 ≤ x5 then (if x5 < (x1.length : Int) then ((spec_l02Less.f ((rd_T82 x0 x5).f0) ((rd_T82 x0 x5).f1) ((rd_T82 x1 x5).f0) ((rd_T82 x1 x5).f1)).bind fun t176 => (if t176 = true then (some (-1)) else ((spec_l02Less.f ((rd_T82 x1 x5).f0) ((rd_T82 x1 x5).f1) ((rd_T82 x0 x5).f0) ((rd_T82 x0 x5).f1)).bind fun t179 => (if t179 = true then (some 1) else (spec_CompareShapes.l0 k x0 x1 (wrap64 (x5 + 1))))))) else (none)) else (none)) else (some 0)
def spec_CompareShapes.f (k : Nat) (l0 : List (S82)) (l1 : List (S82)) : Option (Int) := if (l0.length : Int) = (l1.length : Int) then (spec_CompareShapes.l0 k l0 l1 0) else (if (l0.length : Int) < (l1.length : Int) then (some (-1)) else (some 1))
def spec_CompareShapes.T8 : Bool × List (List Nat × List Nat) := (true, [([], []), ([], []), ([0, 1], [0, 1]), ([2], [2]), ([], []), ([], []), ([4, 5], [4, 5]), ([6], [6]), ([3, 7], [3, 7])])
def spec_CompareShapes.B8 : List Nat := [0, 0, 3, 7, 0, 0, 48, 112, 255]
theorem spec_CompareShapes.tab8 : rtab .any (opsOf Tryz.f86 8) = spec_CompareShapes.T8 := by kernel_rfl
theorem spec_CompareShapes.bits8 : waitsOk spec_CompareShapes.T8.2 spec_CompareShapes.B8 = true := by kernel_rfl
def spec_CompareShapes.T10 : Bool × List (List Nat × List Nat) := (true, [([], []), ([], []), ([0, 1], [0, 1]), ([2], [2]), ([], []), ([], []), ([4, 5], [4, 5]), ([6], [6]), ([3, 7], [3, 7])])
def spec_CompareShapes.B10 : List Nat := [0, 0, 3, 7, 0, 0, 48, 112, 255]
theorem spec_CompareShapes.tab10 : rtab .any (opsOf Tryz.f86 10) = spec_CompareShapes.T10 := by kernel_rfl
theorem spec_CompareShapes.bits10 : waitsOk spec_CompareShapes.T10.2 spec_CompareShapes.B10 = true := by kernel_rfl
theorem spec_CompareShapes.calls (k : Nat) (A0 : Option Addr) (c0 : Nat) (l0 : List (S82)) (A1 : Option Addr) (c1 : Nat) (l1 : List (S82)) (r : Int) (w : World) (hr0 : Kd.C k82 w A0 l0.length l0) (hc0 : l0.length ≤ c0) (hr1 : Kd.C k82 w A1 l1.length l1) (hc1 : l1.length ≤ c1) (h : spec_CompareShapes.f k l0 l1 = some r) :
  Calls Tryz.prog 86 #[.slice A0 l0.length c0, .slice A1 l1.length c1] w fun e w' => e = .returned (.int .i64 r) ∧ Below w.heap.size w w' := by
 have hu82 := Tryz.underlying82
 have HR0 := aM hr0
 have HC0 := aM hc0
 clear hr0 hc0
 have HR1 := aM hr1
 have HC1 := aM hc1
 clear hr1 hc1
 have HB := aM (Below.refl w.heap.size w)
 have H : (if (l0.length : Int) = (l1.length : Int) then (spec_CompareShapes.l0 k l0 l1 0) else (if (l0.length : Int) < (l1.length : Int) then (some (-1)) else (some 1))) = some r := h
 clear h
 by_cases c3 : (l0.length : Int) = (l1.length : Int)
 rotate_left
 ·rw [if_neg c3] at H
  have c3b0 : ((l0.length : Int) == (l1.length : Int)) = false := beq_eq_false_iff_ne.mpr c3
  have c3b1 : ((l0.length : Int) != (l1.length : Int)) = true := bne_iff_ne.mpr c3
  have c3b2 : (l0.length == l1.length) = false := by first | simpa using c3 | (simp at c3 ⊢; omega)
  by_cases c21 : (l0.length : Int) < (l1.length : Int)
  ·rw [if_pos c21] at H
   have c21b0 : decide ((l0.length : Int) < (l1.length : Int)) = true := decide_eq_true c21
   have c21b1 : decide (l0.length < l1.length) = true := decide_eq_true (Int.ofNat_lt.mp c21)
   clear c21
   obtain rfl := Option.some.inj H
   go_enter Tryz.func86, Tryz.ntmps86
   go_wp2
   go_ret
   exact ⟨zw, zb⟩
  rw [if_neg c21] at H
  have c21b0 : decide ((l0.length : Int) < (l1.length : Int)) = false := decide_eq_false c21
  have c21b1 : decide (l0.length < l1.length) = false := decide_eq_false (fun h => c21 (Int.ofNat_lt.mpr h))
  clear c21
  obtain rfl := Option.some.inj H
  go_enter Tryz.func86, Tryz.ntmps86
  go_wp2
  go_ret
  exact ⟨zw, zb⟩
 rw [if_pos c3] at H
 have c3b0 : ((l0.length : Int) == (l1.length : Int)) = true := beq_iff_eq.mpr c3
 have c3b1 : ((l0.length : Int) != (l1.length : Int)) = false := bne_eq_false_iff_eq.mpr c3
 have c3b2 : (l0.length == l1.length) = true := by first | simpa using c3 | (simp at c3 ⊢; omega)
 clear c3
 have H' := aM H
 clear H
 go_enter Tryz.func86, Tryz.ntmps86
 go_wp2
 go_loopg [5] k (fun kq v5 w' => ∃ (x5_1 : Int), v5 = .int .i64 x5_1 ∧ Aside0 (spec_CompareShapes.l0 kq l0 l1 x5_1 = some r) ∧ Aside0 (kq ≤ k) ∧ Aside0 (Below w.heap.size w w'))
 case atStart => exact ⟨(0), zr, H', ⟨Nat.le_refl _⟩, ⟨zb⟩⟩
 case round =>
  clear H'
  try clear c1
  try clear p2
  try clear c3
  try clear c3b0
  try clear c3b1
  try clear c3b2
  obtain ⟨x5_1, rfl, HA, HK1, HB⟩ := hrel
  cases gk with
  | zero => exact absurd HA.out (by simp [spec_CompareShapes.l0])
  | succ k1 =>
   have H := HA.out
   clear HA
   simp only [spec_CompareShapes.l0] at H
   by_cases c4 : x5_1 < (l0.length : Int)
   rotate_left
   ·rw [if_neg c4] at H
    have c4b0 : decide (x5_1 < (l0.length : Int)) = false := decide_eq_false c4
    clear c4
    obtain rfl := Option.some.inj H
    go_wp2
    go_ret
    exact ⟨zw, zb⟩
   rw [if_pos c4] at H
   have c4b0 : decide (x5_1 < (l0.length : Int)) = true := decide_eq_true c4
   clear c4
   by_cases c5 : 0 ≤ x5_1
   rotate_left
   ·rw [if_neg c5] at H
    exact absurd H (by simp)
   rw [if_pos c5] at H
   have c5b0 : decide (0 ≤ x5_1) = true := decide_eq_true c5
   clear c5
   by_cases c6 : x5_1 < (l1.length : Int)
   rotate_left
   ·rw [if_neg c6] at H
    exact absurd H (by simp)
   rw [if_pos c6] at H
   have c6b0 : decide (x5_1 < (l1.length : Int)) = true := decide_eq_true c6
   clear c6
   replace H := Option.bind_eq_some_iff.mp H
   obtain ⟨t176, A70, H⟩ := H
   replace H : (if t176 = true then (some (-1)) else ((spec_l02Less.f ((rd_T82 l1 x5_1).f0) ((rd_T82 l1 x5_1).f1) ((rd_T82 l0 x5_1).f0) ((rd_T82 l0 x5_1).f1)).bind fun t179 => (if t179 = true then (some 1) else (spec_CompareShapes.l0 k1 l0 l1 (wrap64 (x5_1 + 1)))))) = some r := H
   have A7 := aM A70
   clear A70
   by_cases c8 : t176 = true
   ·subst c8
    have H1 : (some (-1)) = some r := by rw [if_pos rfl] at H; exact H
    clear H
    have H := H1
    clear H1
    obtain rfl := Option.some.inj H
    try go_wp2
    have _ := aM (below_drew1 HB.out)
    clear HB
    rename_i HB
    have p174 : 0 ≤ (x5_1 : Int) := of_decide_eq_true za
    have q174 : x5_1 < (l0.length : Int) := of_decide_eq_true za
    obtain ⟨ad174, e174, hx174_0, hx174_1⟩ := at_T82 HR0.out x5_1 p174 q174
    have hw174_1 := hx174_1
    have hw174_0 := hx174_0
    cases e174
    replace hx174_0 := zk HB.out hx174_0
    replace hx174_1 := zk HB.out hx174_1
    replace p174 := eq_true p174
    replace q174 := eq_true q174
    have p175 : 0 ≤ (x5_1 : Int) := of_decide_eq_true za
    have q175 : x5_1 < (l1.length : Int) := of_decide_eq_true za
    obtain ⟨ad175, e175, hx175_0, hx175_1⟩ := at_T82 HR1.out x5_1 p175 q175
    have hw175_1 := hx175_1
    have hw175_0 := hx175_0
    cases e175
    replace hx175_0 := zk HB.out hx175_0
    replace hx175_1 := zk HB.out hx175_1
    replace p175 := eq_true p175
    replace q175 := eq_true q175
    refine start_ (n := 9) (S := fun w' => w'.cell? (ad174.add ((x5_1).toNat * 2)) = some (.int .i64 ((rd_T82 l0 x5_1).f0)) ∧ w'.cell? ⟨(ad174.add ((x5_1).toNat * 2)).block, (ad174.add ((x5_1).toNat * 2)).off + 1, none⟩ = some (.int .i64 ((rd_T82 l0 x5_1).f1)) ∧ w'.cell? (ad175.add ((x5_1).toNat * 2)) = some (.int .i64 ((rd_T82 l1 x5_1).f0)) ∧ w'.cell? ⟨(ad175.add ((x5_1).toNat * 2)).block, (ad175.add ((x5_1).toNat * 2)).off + 1, none⟩ = some (.int .i64 ((rd_T82 l1 x5_1).f1))) (ds := []) zA27 (by kernel_rfl) rfl rfl ⟨(zk HB.out hw174_0), (zk HB.out hw174_1), (zk HB.out hw175_0), (zk HB.out hw175_1)⟩ (fun hHeld => ?_); refine with_tabW spec_CompareShapes.tab8 spec_CompareShapes.bits8 (fun HT_ HW_ => ?_)
    generalize wr.drew = w9 at HB hx174_0 hx174_1 hx175_0 hx175_1 hHeld ⊢
    refine zP 0 (some 22) zA28 ?_
    refine zP 1 (some 23) zA29 ?_
    refine zP 2 (some 24) zA30 ?_
    refine zP 4 (some 26) zA31 ?_
    refine zP 5 (some 27) #[true, true, true, false, true, true, false, false, false] ?_
    refine zP 6 (some 28) #[true, true, true, false, true, true, true, false, false] ?_
    refine zU4 3 (some 25) #[true, true, true, true, true, true, true, false, false] hHeld ?_
    refine zU4 7 (some 29) #[true, true, true, true, true, true, true, true, false] hHeld ?_
    refine one_ (i := 8) (N := some 30) #[true, true, true, true, true, true, true, true, true] rfl rfl (one_of HT_.out (by kernel_rfl)) (by decide) (fun K hK => ?_)
    refine goes_ Tryz.func93 (by kernel_rfl) rfl #[.agg #[.int .i64 ((rd_T82 l0 x5_1).f0), .int .i64 ((rd_T82 l0 x5_1).f1)], .agg #[.int .i64 ((rd_T82 l1 x5_1).f0), .int .i64 ((rd_T82 l1 x5_1).f1)]] (by rfl) rfl rfl zm ?_
    with_reducible refine (spec_l02Less.calls ((rd_T82 l0 x5_1).f0) ((rd_T82 l0 x5_1).f1) ((rd_T82 l1 x5_1).f0) ((rd_T82 l1 x5_1).f1) true _ A7.out).mono ?_
    rintro e w10 ⟨rfl, hb⟩
    refine ⟨_, rfl, ?_⟩
    have _ := aM (below_step zb hb)
    clear HB
    rename_i HB
    (try clear hb)
    (try clear hb2)
    (try clear hk)
    (try clear hi)
    refine hK.out _ _ ⟨(zk HB.out hw174_0), (zk HB.out hw174_1), (zk HB.out hw175_0), (zk HB.out hw175_1)⟩ (fun hHeld => ?_)
    clear hK K
    refine norm_ (a' := ?_) ?_ ?_
    rotate_left
    ·show Act.put _ (some 30) _ = _
     simp only [Act.put, xA, xB, xC, i64_w, i32_w]
     rfl
    refine done_ (done_of HT_.out (by kernel_rfl)) ?_
    try go_wp2
    go_ret
    exact ⟨zw, zb⟩
   replace c8 := Bool.eq_false_iff.mpr c8
   subst c8
   have H1 : ((spec_l02Less.f ((rd_T82 l1 x5_1).f0) ((rd_T82 l1 x5_1).f1) ((rd_T82 l0 x5_1).f0) ((rd_T82 l0 x5_1).f1)).bind fun t179 => (if t179 = true then (some 1) else (spec_CompareShapes.l0 k1 l0 l1 (wrap64 (x5_1 + 1))))) = some r := by rw [if_neg (show ¬ (false = true) by decide)] at H; exact H
   clear H
   have H := H1
   clear H1
   replace H := Option.bind_eq_some_iff.mp H
   obtain ⟨t179, A110, H⟩ := H
   replace H : (if t179 = true then (some 1) else (spec_CompareShapes.l0 k1 l0 l1 (wrap64 (x5_1 + 1)))) = some r := H
   have A11 := aM A110
   clear A110
   by_cases c12 : t179 = true
   ·subst c12
    have H1 : (some 1) = some r := by rw [if_pos rfl] at H; exact H
    clear H
    have H := H1
    clear H1
    obtain rfl := Option.some.inj H
    try go_wp2
    have _ := aM (below_drew1 HB.out)
    clear HB
    rename_i HB
    have p174 : 0 ≤ (x5_1 : Int) := of_decide_eq_true za
    have q174 : x5_1 < (l0.length : Int) := of_decide_eq_true za
    obtain ⟨ad174, e174, hx174_0, hx174_1⟩ := at_T82 HR0.out x5_1 p174 q174
    have hw174_1 := hx174_1
    have hw174_0 := hx174_0
    cases e174
    replace hx174_0 := zk HB.out hx174_0
    replace hx174_1 := zk HB.out hx174_1
    replace p174 := eq_true p174
    replace q174 := eq_true q174
    have p175 : 0 ≤ (x5_1 : Int) := of_decide_eq_true za
    have q175 : x5_1 < (l1.length : Int) := of_decide_eq_true za
    obtain ⟨ad175, e175, hx175_0, hx175_1⟩ := at_T82 HR1.out x5_1 p175 q175
    have hw175_1 := hx175_1
    have hw175_0 := hx175_0
    cases e175
    replace hx175_0 := zk HB.out hx175_0
    replace hx175_1 := zk HB.out hx175_1
    replace p175 := eq_true p175
    replace q175 := eq_true q175
    refine start_ (n := 9) (S := fun w' => w'.cell? (ad174.add ((x5_1).toNat * 2)) = some (.int .i64 ((rd_T82 l0 x5_1).f0)) ∧ w'.cell? ⟨(ad174.add ((x5_1).toNat * 2)).block, (ad174.add ((x5_1).toNat * 2)).off + 1, none⟩ = some (.int .i64 ((rd_T82 l0 x5_1).f1)) ∧ w'.cell? (ad175.add ((x5_1).toNat * 2)) = some (.int .i64 ((rd_T82 l1 x5_1).f0)) ∧ w'.cell? ⟨(ad175.add ((x5_1).toNat * 2)).block, (ad175.add ((x5_1).toNat * 2)).off + 1, none⟩ = some (.int .i64 ((rd_T82 l1 x5_1).f1))) (ds := []) zA27 (by kernel_rfl) rfl rfl ⟨(zk HB.out hw174_0), (zk HB.out hw174_1), (zk HB.out hw175_0), (zk HB.out hw175_1)⟩ (fun hHeld => ?_); refine with_tabW spec_CompareShapes.tab8 spec_CompareShapes.bits8 (fun HT_ HW_ => ?_)
    generalize wr.drew = w13 at HB hx174_0 hx174_1 hx175_0 hx175_1 hHeld ⊢
    refine zP 0 (some 22) zA28 ?_
    refine zP 1 (some 23) zA29 ?_
    refine zP 2 (some 24) zA30 ?_
    refine zP 4 (some 26) zA31 ?_
    refine zP 5 (some 27) #[true, true, true, false, true, true, false, false, false] ?_
    refine zP 6 (some 28) #[true, true, true, false, true, true, true, false, false] ?_
    refine zU4 3 (some 25) #[true, true, true, true, true, true, true, false, false] hHeld ?_
    refine zU4 7 (some 29) #[true, true, true, true, true, true, true, true, false] hHeld ?_
    refine one_ (i := 8) (N := some 30) #[true, true, true, true, true, true, true, true, true] rfl rfl (one_of HT_.out (by kernel_rfl)) (by decide) (fun K hK => ?_)
    refine goes_ Tryz.func93 (by kernel_rfl) rfl #[.agg #[.int .i64 ((rd_T82 l0 x5_1).f0), .int .i64 ((rd_T82 l0 x5_1).f1)], .agg #[.int .i64 ((rd_T82 l1 x5_1).f0), .int .i64 ((rd_T82 l1 x5_1).f1)]] (by rfl) rfl rfl zm ?_
    with_reducible refine (spec_l02Less.calls ((rd_T82 l0 x5_1).f0) ((rd_T82 l0 x5_1).f1) ((rd_T82 l1 x5_1).f0) ((rd_T82 l1 x5_1).f1) false _ A7.out).mono ?_
    rintro e w14 ⟨rfl, hb⟩
    refine ⟨_, rfl, ?_⟩
    have _ := aM (below_step zb hb)
    clear HB
    rename_i HB
    (try clear hb)
    (try clear hb2)
    (try clear hk)
    (try clear hi)
    refine hK.out _ _ ⟨(zk HB.out hw174_0), (zk HB.out hw174_1), (zk HB.out hw175_0), (zk HB.out hw175_1)⟩ (fun hHeld => ?_)
    clear hK K
    refine norm_ (a' := ?_) ?_ ?_
    rotate_left
    ·show Act.put _ (some 30) _ = _
     simp only [Act.put, xA, xB, xC, i64_w, i32_w]
     rfl
    refine done_ (done_of HT_.out (by kernel_rfl)) ?_
    try go_wp2
    have _ := aM (below_drew1 HB.out)
    clear HB
    rename_i HB
    have p177 : 0 ≤ (x5_1 : Int) := of_decide_eq_true za
    have q177 : x5_1 < (l1.length : Int) := of_decide_eq_true za
    obtain ⟨ad177, e177, hx177_0, hx177_1⟩ := at_T82 HR1.out x5_1 p177 q177
    have hw177_1 := hx177_1
    have hw177_0 := hx177_0
    obtain rfl : ad175 = ad177 := (by injection e177)
    replace hx177_0 := zk HB.out hx177_0
    replace hx177_1 := zk HB.out hx177_1
    replace p177 := eq_true p177
    replace q177 := eq_true q177
    have p178 : 0 ≤ (x5_1 : Int) := of_decide_eq_true za
    have q178 : x5_1 < (l0.length : Int) := of_decide_eq_true za
    obtain ⟨ad178, e178, hx178_0, hx178_1⟩ := at_T82 HR0.out x5_1 p178 q178
    have hw178_1 := hx178_1
    have hw178_0 := hx178_0
    obtain rfl : ad174 = ad178 := (by injection e178)
    replace hx178_0 := zk HB.out hx178_0
    replace hx178_1 := zk HB.out hx178_1
    replace p178 := eq_true p178
    replace q178 := eq_true q178
    refine start_ (n := 9) (S := fun w' => w'.cell? (ad175.add ((x5_1).toNat * 2)) = some (.int .i64 ((rd_T82 l1 x5_1).f0)) ∧ w'.cell? ⟨(ad175.add ((x5_1).toNat * 2)).block, (ad175.add ((x5_1).toNat * 2)).off + 1, none⟩ = some (.int .i64 ((rd_T82 l1 x5_1).f1)) ∧ w'.cell? (ad174.add ((x5_1).toNat * 2)) = some (.int .i64 ((rd_T82 l0 x5_1).f0)) ∧ w'.cell? ⟨(ad174.add ((x5_1).toNat * 2)).block, (ad174.add ((x5_1).toNat * 2)).off + 1, none⟩ = some (.int .i64 ((rd_T82 l0 x5_1).f1))) (ds := []) zA27 (by kernel_rfl) rfl rfl ⟨(zk HB.out hw177_0), (zk HB.out hw177_1), (zk HB.out hw178_0), (zk HB.out hw178_1)⟩ (fun hHeld => ?_); refine with_tabW spec_CompareShapes.tab10 spec_CompareShapes.bits10 (fun HT_ HW_ => ?_)
    generalize w14.drew = w15 at HB hx177_0 hx177_1 hx178_0 hx178_1 hHeld ⊢
    refine zP 0 (some 31) zA28 ?_
    refine zP 1 (some 32) zA29 ?_
    refine zP 2 (some 33) zA30 ?_
    refine zP 4 (some 35) zA31 ?_
    refine zP 5 (some 36) #[true, true, true, false, true, true, false, false, false] ?_
    refine zP 6 (some 37) #[true, true, true, false, true, true, true, false, false] ?_
    refine zU4 3 (some 34) #[true, true, true, true, true, true, true, false, false] hHeld ?_
    refine zU4 7 (some 38) #[true, true, true, true, true, true, true, true, false] hHeld ?_
    refine one_ (i := 8) (N := some 39) #[true, true, true, true, true, true, true, true, true] rfl rfl (one_of HT_.out (by kernel_rfl)) (by decide) (fun K hK => ?_)
    refine goes_ Tryz.func93 (by kernel_rfl) rfl #[.agg #[.int .i64 ((rd_T82 l1 x5_1).f0), .int .i64 ((rd_T82 l1 x5_1).f1)], .agg #[.int .i64 ((rd_T82 l0 x5_1).f0), .int .i64 ((rd_T82 l0 x5_1).f1)]] (by rfl) rfl rfl zm ?_
    with_reducible refine (spec_l02Less.calls ((rd_T82 l1 x5_1).f0) ((rd_T82 l1 x5_1).f1) ((rd_T82 l0 x5_1).f0) ((rd_T82 l0 x5_1).f1) true _ A11.out).mono ?_
    rintro e w16 ⟨rfl, hb⟩
    refine ⟨_, rfl, ?_⟩
    have _ := aM (below_step zb hb)
    clear HB
    rename_i HB
    (try clear hb)
    (try clear hb2)
    (try clear hk)
    (try clear hi)
    refine hK.out _ _ ⟨(zk HB.out hw177_0), (zk HB.out hw177_1), (zk HB.out hw178_0), (zk HB.out hw178_1)⟩ (fun hHeld => ?_)
    clear hK K
    refine norm_ (a' := ?_) ?_ ?_
    rotate_left
    ·show Act.put _ (some 39) _ = _
     simp only [Act.put, xA, xB, xC, i64_w, i32_w]
     rfl
    refine done_ (done_of HT_.out (by kernel_rfl)) ?_
    try go_wp2
    go_ret
    exact ⟨zw, zb⟩
   replace c12 := Bool.eq_false_iff.mpr c12
   subst c12
   have H1 : (spec_CompareShapes.l0 k1 l0 l1 (wrap64 (x5_1 + 1))) = some r := by rw [if_neg (show ¬ (false = true) by decide)] at H; exact H
   clear H
   have H := H1
   clear H1
   have H' := aM H
   clear H
   try go_wp2
   have _ := aM (below_drew1 HB.out)
   clear HB
   rename_i HB
   have p174 : 0 ≤ (x5_1 : Int) := of_decide_eq_true za
   have q174 : x5_1 < (l0.length : Int) := of_decide_eq_true za
   obtain ⟨ad174, e174, hx174_0, hx174_1⟩ := at_T82 HR0.out x5_1 p174 q174
   have hw174_1 := hx174_1
   have hw174_0 := hx174_0
   cases e174
   replace hx174_0 := zk HB.out hx174_0
   replace hx174_1 := zk HB.out hx174_1
   replace p174 := eq_true p174
   replace q174 := eq_true q174
   have p175 : 0 ≤ (x5_1 : Int) := of_decide_eq_true za
   have q175 : x5_1 < (l1.length : Int) := of_decide_eq_true za
   obtain ⟨ad175, e175, hx175_0, hx175_1⟩ := at_T82 HR1.out x5_1 p175 q175
   have hw175_1 := hx175_1
   have hw175_0 := hx175_0
   cases e175
   replace hx175_0 := zk HB.out hx175_0
   replace hx175_1 := zk HB.out hx175_1
   replace p175 := eq_true p175
   replace q175 := eq_true q175
   refine start_ (n := 9) (S := fun w' => w'.cell? (ad174.add ((x5_1).toNat * 2)) = some (.int .i64 ((rd_T82 l0 x5_1).f0)) ∧ w'.cell? ⟨(ad174.add ((x5_1).toNat * 2)).block, (ad174.add ((x5_1).toNat * 2)).off + 1, none⟩ = some (.int .i64 ((rd_T82 l0 x5_1).f1)) ∧ w'.cell? (ad175.add ((x5_1).toNat * 2)) = some (.int .i64 ((rd_T82 l1 x5_1).f0)) ∧ w'.cell? ⟨(ad175.add ((x5_1).toNat * 2)).block, (ad175.add ((x5_1).toNat * 2)).off + 1, none⟩ = some (.int .i64 ((rd_T82 l1 x5_1).f1))) (ds := []) zA27 (by kernel_rfl) rfl rfl ⟨(zk HB.out hw174_0), (zk HB.out hw174_1), (zk HB.out hw175_0), (zk HB.out hw175_1)⟩ (fun hHeld => ?_); refine with_tabW spec_CompareShapes.tab8 spec_CompareShapes.bits8 (fun HT_ HW_ => ?_)
   generalize wr.drew = w17 at HB hx174_0 hx174_1 hx175_0 hx175_1 hHeld ⊢
   refine zP 0 (some 22) zA28 ?_
   refine zP 1 (some 23) zA29 ?_
   refine zP 2 (some 24) zA30 ?_
   refine zP 4 (some 26) zA31 ?_
   refine zP 5 (some 27) #[true, true, true, false, true, true, false, false, false] ?_
   refine zP 6 (some 28) #[true, true, true, false, true, true, true, false, false] ?_
   refine zU4 3 (some 25) #[true, true, true, true, true, true, true, false, false] hHeld ?_
   refine zU4 7 (some 29) #[true, true, true, true, true, true, true, true, false] hHeld ?_
   refine one_ (i := 8) (N := some 30) #[true, true, true, true, true, true, true, true, true] rfl rfl (one_of HT_.out (by kernel_rfl)) (by decide) (fun K hK => ?_)
   refine goes_ Tryz.func93 (by kernel_rfl) rfl #[.agg #[.int .i64 ((rd_T82 l0 x5_1).f0), .int .i64 ((rd_T82 l0 x5_1).f1)], .agg #[.int .i64 ((rd_T82 l1 x5_1).f0), .int .i64 ((rd_T82 l1 x5_1).f1)]] (by rfl) rfl rfl zm ?_
   with_reducible refine (spec_l02Less.calls ((rd_T82 l0 x5_1).f0) ((rd_T82 l0 x5_1).f1) ((rd_T82 l1 x5_1).f0) ((rd_T82 l1 x5_1).f1) false _ A7.out).mono ?_
   rintro e w18 ⟨rfl, hb⟩
   refine ⟨_, rfl, ?_⟩
   have _ := aM (below_step zb hb)
   clear HB
   rename_i HB
   (try clear hb)
   (try clear hb2)
   (try clear hk)
   (try clear hi)
   refine hK.out _ _ ⟨(zk HB.out hw174_0), (zk HB.out hw174_1), (zk HB.out hw175_0), (zk HB.out hw175_1)⟩ (fun hHeld => ?_)
   clear hK K
   refine norm_ (a' := ?_) ?_ ?_
   rotate_left
   ·show Act.put _ (some 30) _ = _
    simp only [Act.put, xA, xB, xC, i64_w, i32_w]
    rfl
   refine done_ (done_of HT_.out (by kernel_rfl)) ?_
   try go_wp2
   have _ := aM (below_drew1 HB.out)
   clear HB
   rename_i HB
   have p177 : 0 ≤ (x5_1 : Int) := of_decide_eq_true za
   have q177 : x5_1 < (l1.length : Int) := of_decide_eq_true za
   obtain ⟨ad177, e177, hx177_0, hx177_1⟩ := at_T82 HR1.out x5_1 p177 q177
   have hw177_1 := hx177_1
   have hw177_0 := hx177_0
   obtain rfl : ad175 = ad177 := (by injection e177)
   replace hx177_0 := zk HB.out hx177_0
   replace hx177_1 := zk HB.out hx177_1
   replace p177 := eq_true p177
   replace q177 := eq_true q177
   have p178 : 0 ≤ (x5_1 : Int) := of_decide_eq_true za
   have q178 : x5_1 < (l0.length : Int) := of_decide_eq_true za
   obtain ⟨ad178, e178, hx178_0, hx178_1⟩ := at_T82 HR0.out x5_1 p178 q178
   have hw178_1 := hx178_1
   have hw178_0 := hx178_0
   obtain rfl : ad174 = ad178 := (by injection e178)
   replace hx178_0 := zk HB.out hx178_0
   replace hx178_1 := zk HB.out hx178_1
   replace p178 := eq_true p178
   replace q178 := eq_true q178
   refine start_ (n := 9) (S := fun w' => w'.cell? (ad175.add ((x5_1).toNat * 2)) = some (.int .i64 ((rd_T82 l1 x5_1).f0)) ∧ w'.cell? ⟨(ad175.add ((x5_1).toNat * 2)).block, (ad175.add ((x5_1).toNat * 2)).off + 1, none⟩ = some (.int .i64 ((rd_T82 l1 x5_1).f1)) ∧ w'.cell? (ad174.add ((x5_1).toNat * 2)) = some (.int .i64 ((rd_T82 l0 x5_1).f0)) ∧ w'.cell? ⟨(ad174.add ((x5_1).toNat * 2)).block, (ad174.add ((x5_1).toNat * 2)).off + 1, none⟩ = some (.int .i64 ((rd_T82 l0 x5_1).f1))) (ds := []) zA27 (by kernel_rfl) rfl rfl ⟨(zk HB.out hw177_0), (zk HB.out hw177_1), (zk HB.out hw178_0), (zk HB.out hw178_1)⟩ (fun hHeld => ?_); refine with_tabW spec_CompareShapes.tab10 spec_CompareShapes.bits10 (fun HT_ HW_ => ?_)
   generalize w18.drew = w19 at HB hx177_0 hx177_1 hx178_0 hx178_1 hHeld ⊢
   refine zP 0 (some 31) zA28 ?_
   refine zP 1 (some 32) zA29 ?_
   refine zP 2 (some 33) zA30 ?_
   refine zP 4 (some 35) zA31 ?_
   refine zP 5 (some 36) #[true, true, true, false, true, true, false, false, false] ?_
   refine zP 6 (some 37) #[true, true, true, false, true, true, true, false, false] ?_
   refine zU4 3 (some 34) #[true, true, true, true, true, true, true, false, false] hHeld ?_
   refine zU4 7 (some 38) #[true, true, true, true, true, true, true, true, false] hHeld ?_
   refine one_ (i := 8) (N := some 39) #[true, true, true, true, true, true, true, true, true] rfl rfl (one_of HT_.out (by kernel_rfl)) (by decide) (fun K hK => ?_)
   refine goes_ Tryz.func93 (by kernel_rfl) rfl #[.agg #[.int .i64 ((rd_T82 l1 x5_1).f0), .int .i64 ((rd_T82 l1 x5_1).f1)], .agg #[.int .i64 ((rd_T82 l0 x5_1).f0), .int .i64 ((rd_T82 l0 x5_1).f1)]] (by rfl) rfl rfl zm ?_
   with_reducible refine (spec_l02Less.calls ((rd_T82 l1 x5_1).f0) ((rd_T82 l1 x5_1).f1) ((rd_T82 l0 x5_1).f0) ((rd_T82 l0 x5_1).f1) false _ A11.out).mono ?_
   rintro e w20 ⟨rfl, hb⟩
   refine ⟨_, rfl, ?_⟩
   have _ := aM (below_step zb hb)
   clear HB
   rename_i HB
   (try clear hb)
   (try clear hb2)
   (try clear hk)
   (try clear hi)
   refine hK.out _ _ ⟨(zk HB.out hw177_0), (zk HB.out hw177_1), (zk HB.out hw178_0), (zk HB.out hw178_1)⟩ (fun hHeld => ?_)
   clear hK K
   refine norm_ (a' := ?_) ?_ ?_
   rotate_left
   ·show Act.put _ (some 39) _ = _
    simp only [Act.put, xA, xB, xC, i64_w, i32_w]
    rfl
   refine done_ (done_of HT_.out (by kernel_rfl)) ?_
   try go_wp2
   go_roundg k1
   case measure => have := HK1.out; omega
   case rel => exact ⟨(wrap64 (x5_1 + 1)), zr, H', ⟨by have := HK1.out; omega⟩, ⟨zb⟩⟩
def spec_l03Add.l0 : Nat → List (List (S82)) → List (S82) → List (List (S82)) → Bool → Int → Option ((List (List (S82))))
 | 0, _, _, _, _, _ => none
 | k + 1, x0, x1, x5, x6, x7 => if x7 < (x0.length : Int) then (if 0 ≤ x7 then ((spec_CompareShapes.f k x1 (rd_L2 x0 x7)).bind fun t187 => (if t187 = 0 then (some x0) else (if t187 < 0 then (if x6 = true then (if x5.length < 5864062014805 then (spec_l03Add.l0 k x0 x1 (x5 ++ [rd_L2 x0 x7]) x6 (wrap64 (x7 + 1))) else (none)) else (if x5.length < 5864062014805 then ((some (x5 ++ [x1] : List (List (S82)))).bind fun y192 => (if y192.length < 5864062014805 then (spec_l03Add.l0 k x0 x1 (y192 ++ [rd_L2 x0 x7]) true (wrap64 (x7 + 1))) else (none))) else (none))) else (if x5.length < 5864062014805 then (spec_l03Add.l0 k x0 x1 (x5 ++ [rd_L2 x0 x7]) x6 (wrap64 (x7 + 1))) else (none))))) else (none)) else (if x6 = true then (some x5) else (if x5.length < 5864062014805 then (some (x5 ++ [x1])) else (none)))
def spec_l03Add.f (k : Nat) (l0 : List (List (S82))) (l1 : List (S82)) : Option ((List (List (S82)))) := spec_l03Add.l0 k l0 l1 (([] : List (List (S82)))) false 0
theorem spec_l03Add.calls (k : Nat) (P0_ : Nat → Prop) (A0 : Option Addr) (c0 : Nat) (l0 : List (List (S82))) (P1_ : Nat → Prop) (A1 : Option Addr) (c1 : Nat) (l1 : List (S82)) (r : List (List (S82))) (w : World) (hs0 : Kd.V (Kd.slice 82 k82) 28 w w.heap.size (fun k_ => P0_ k_) (.slice A0 l0.length c0) l0) (hs1 : Kd.V k82 82 w w.heap.size (fun k_ => P1_ k_) (.slice A1 l1.length c1) l1) (h : spec_l03Add.f k l0 l1 = some r) :
  Calls Tryz.prog 147 #[.slice A0 l0.length c0, .slice A1 l1.length c1] w fun e w' => ∃ v0_ : Value, e = .returned (v0_) ∧ Kd.V (Kd.slice 82 k82) 28 w' w.heap.size (fun k_ => ((P0_ k_ ∨ P1_ k_) ∨ w.heap.size ≤ k_)) v0_ r ∧ Below w.heap.size w w' := by
 have HO0 := aM (show Kd.V (Kd.slice 82 k82) 28 w w.heap.size (fun k_ => ((P0_ k_ ∨ P1_ k_) ∨ w.heap.size ≤ k_)) (.slice A0 l0.length c0) l0 from Kd.V_mono hs0 (fun k_ hk => .inl (.inl hk)))
 have HO1 := aM (show Kd.V k82 82 w w.heap.size (fun k_ => ((P0_ k_ ∨ P1_ k_) ∨ w.heap.size ≤ k_)) (.slice A1 l1.length c1) l1 from Kd.V_mono hs1 (fun k_ hk => .inl (.inr hk)))
 have HB := aM (Below.refl w.heap.size w)
 have H : (spec_l03Add.l0 k l0 l1 (([] : List (List (S82)))) false 0) = some r := h
 clear h
 obtain ⟨y180, hy180⟩ : ∃ y_ : List (List (S82)), y_ = (([] : List (List (S82)))) := ⟨_, rfl⟩
 replace H : (spec_l03Add.l0 k l0 l1 y180 false 0) = some r := zy H hy180
 have Ny180 := aM hy180
 clear hy180
 have H' := aM H
 clear H
 go_enter Tryz.func147, Tryz.ntmps147
 go_wp2_with (first | ((with_reducible refine gate_dst (N := 9) rfl ?_); refine Kd.N_lit (Kd.slice 82 k82) _ 28 ?hg (N' := 9) ?hd (xs := ([] : List (List (S82)))) (inner := []) (ok := (fun k_ => ((P0_ k_ ∨ P1_ k_) ∨ w.heap.size ≤ k_))) (okp := (fun k_ => ((P0_ k_ ∨ P1_ k_) ∨ w.heap.size ≤ k_))) ?hr ?hp (fun _ hk => hk) ((show ∀ k_, w.heap.size ≤ k_ → (fun k_ => ((P0_ k_ ∨ P1_ k_) ∨ w.heap.size ≤ k_)) k_ from fun k_ hk => (.inr (Nat.le_trans (below_size zb) hk))) _ (Nat.le_refl _)) (Below.refl _ _) (Nat.le_refl _) (by simp) ?_; (case hd => rfl); (case hg => rfl); (case hr => first | (go_simp; done) | (go_simp; rfl)); (case hp => exact (Reps.none _ _)); intro v181 w3 ho4 hb hg_ hnew_; clear hg_ hnew_; (first | rw [← Ny180.out] at ho4 | (simp only [Int.reduceToNat] at ho4; rw [← Ny180.out] at ho4)); have _ := aM (Kd.V_elder' (mV_ HO0.out) (by first | exact Kd.N_base ho4 | exact Kd.S_base ho4 | exact Kd.R_base ho4) hb); have _ := aM (Kd.V_elder' (mV_ HO1.out) (by first | exact Kd.N_base ho4 | exact Kd.S_base ho4 | exact Kd.R_base ho4) hb); have _ := aM (Kd.N_lower ho4 (below_size zb)); have _ := aM (below_step zb hb); clear HO0 HO1 HB; rename_i HO0 HO1 HO182 HB; clear hb ho4))
 go_loopg [5, 6, 7] k (fun kq v5 v6 v7 w' => ∃ (x5_1 : List (List (S82))) (x6_1 : Bool) (x7_1 : Int), v6 = .bool x6_1 ∧ v7 = .int .i64 x7_1 ∧ Aside0 (spec_l03Add.l0 kq l0 l1 x5_1 x6_1 x7_1 = some r) ∧ Aside0 (kq ≤ k) ∧ Aside0 (Kd.V (Kd.slice 82 k82) 28 w' w.heap.size (fun k_ => ((P0_ k_ ∨ P1_ k_) ∨ w.heap.size ≤ k_) ∧ some k_ ≠ (v5 : Value).ownBlock) (.slice A0 l0.length c0) l0) ∧ Aside0 (Kd.V k82 82 w' w.heap.size (fun k_ => ((P0_ k_ ∨ P1_ k_) ∨ w.heap.size ≤ k_) ∧ some k_ ≠ (v5 : Value).ownBlock) (.slice A1 l1.length c1) l1) ∧ Aside0 (Kd.N (Kd.slice 82 k82) 28 w' w.heap.size (fun k_ => ((P0_ k_ ∨ P1_ k_) ∨ w.heap.size ≤ k_)) v5 x5_1) ∧ Aside0 (Below w.heap.size w w'))
 case atStart => exact ⟨(y180), (false), (0), zr, zr, H', ⟨Nat.le_refl _⟩, ⟨mV_ HO0.out⟩, ⟨mV_ HO1.out⟩, ⟨mN_ HO182.out⟩, ⟨zb⟩⟩
 case round =>
  clear H'
  try clear c1
  try clear p2
  obtain ⟨x5_1, x6_1, x7_1, rfl, rfl, HA, HK1, HO_0, HO_1, HO_5, HB⟩ := hrel
  cases gk with
  | zero => exact absurd HA.out (by simp [spec_l03Add.l0])
  | succ k1 =>
   have H := HA.out
   clear HA
   simp only [spec_l03Add.l0] at H
   by_cases c5 : x7_1 < (l0.length : Int)
   rotate_left
   ·rw [if_neg c5] at H
    have c5b0 : decide (x7_1 < (l0.length : Int)) = false := decide_eq_false c5
    clear c5
    by_cases c23 : x6_1 = true
    ·subst c23
     have H1 : (some x5_1) = some r := by rw [if_pos rfl] at H; exact H
     clear H
     have H := H1
     clear H1
     obtain rfl := Option.some.inj H
     go_wp2
     go_ret
     exact ⟨_, zw, Kd.N_V (mN_ HO_5.out), zb⟩
    replace c23 := Bool.eq_false_iff.mpr c23
    subst c23
    have H1 : (if x5_1.length < 5864062014805 then (some (x5_1 ++ [l1])) else (none)) = some r := by rw [if_neg (show ¬ (false = true) by decide)] at H; exact H
    clear H
    have H := H1
    clear H1
    by_cases c24 : x5_1.length < 5864062014805
    rotate_left
    ·rw [if_neg c24] at H
     exact absurd H (by simp)
    rw [if_pos c24] at H
    have LMc24 := aM c24
    clear c24
    obtain ⟨y183, hy183⟩ : ∃ y_ : List (List (S82)), y_ = (x5_1 ++ [l1]) := ⟨_, rfl⟩
    replace H : (some y183) = some r := zy H hy183
    have Ny183 := aM hy183
    clear hy183
    obtain rfl := Option.some.inj H
    go_wp2_with (first | ((with_reducible refine gate_builtin (b := .append) (xs := #[.tmp 44, .tmp 46]) rfl ?_); at_builtin; refine Kd.N_append (Kd.slice 82 k82) (w0 := w) w.heap.size rfl (.tmp 44) (.tmp 46) 97 28 (.slice none 0 0) 24 rfl Tryz.underlying97 info28 rfl (by decide) (by omega) u5 x5_1 l1 [.slice A1 l1.length c1] (fun k_ => ((P0_ k_ ∨ P1_ k_) ∨ w.heap.size ≤ k_)) (fun k_ => ((fun k_ => ((P0_ k_ ∨ P1_ k_) ∨ w.heap.size ≤ k_))) k_ ∧ some k_ ≠ (u5 : Value).ownBlock) rfl rfl ?aP (fun _ hk => hk) ?aF ?aO ?aB ?aS ?aL ?_; (case aP => first | exact (Kd.FK_slice_mk (Kd.V_reads' (Kd.V_mono (ok' := (fun k_ => ((fun k_ => ((P0_ k_ ∨ P1_ k_) ∨ w.heap.size ≤ k_))) k_ ∧ some k_ ≠ (u5 : Value).ownBlock)) (Kd.V_drewN HO_1.out _) (fun k_ hk => ⟨hk.1, hk.2⟩))).2.1 (Kd.V_F (Kd.V_mono (ok' := (fun k_ => ((fun k_ => ((P0_ k_ ∨ P1_ k_) ∨ w.heap.size ≤ k_))) k_ ∧ some k_ ≠ (u5 : Value).ownBlock)) (Kd.V_drewN HO_1.out _) (fun k_ hk => ⟨hk.1, hk.2⟩)))) | exact (Kd.FK_slice_mk (Kd.V_reads' (Kd.V_mono (ok' := (fun k_ => ((fun k_ => ((P0_ k_ ∨ P1_ k_) ∨ w.heap.size ≤ k_))) k_ ∧ some k_ ≠ (u5 : Value).ownBlock)) (HO_1.out) (fun k_ hk => ⟨hk.1, hk.2⟩))).2.1 (Kd.V_F (Kd.V_mono (ok' := (fun k_ => ((fun k_ => ((P0_ k_ ∨ P1_ k_) ∨ w.heap.size ≤ k_))) k_ ∧ some k_ ≠ (u5 : Value).ownBlock)) (HO_1.out) (fun k_ hk => ⟨hk.1, hk.2⟩)))) | exact (Kd.FK_slice_mk (Kd.V_reads' (Kd.V_mono (ok' := (fun k_ => ((fun k_ => ((P0_ k_ ∨ P1_ k_) ∨ w.heap.size ≤ k_))) k_ ∧ some k_ ≠ (u5 : Value).ownBlock)) (Kd.V_alloc (Kd.V_drewN HO_1.out _) _) (fun k_ hk => ⟨hk.1, hk.2⟩))).2.1 (Kd.V_F (Kd.V_mono (ok' := (fun k_ => ((fun k_ => ((P0_ k_ ∨ P1_ k_) ∨ w.heap.size ≤ k_))) k_ ∧ some k_ ≠ (u5 : Value).ownBlock)) (Kd.V_alloc (Kd.V_drewN HO_1.out _) _) (fun k_ hk => ⟨hk.1, hk.2⟩)))) | (have h2_ := Kd.V_mono (ok' := (fun k_ => ((fun k_ => ((P0_ k_ ∨ P1_ k_) ∨ w.heap.size ≤ k_))) k_ ∧ some k_ ≠ (u5 : Value).ownBlock)) (Kd.V_drewN HO_1.out nd) (fun k_ hk => ⟨hk.1, hk.2⟩); exact Kd.FK_slice_mk (Kd.V_reads' h2_).2.1 (Kd.V_F h2_))); (case aB => exact zb); (case aF => exact (fun k_ hk => (.inr (Nat.le_trans (below_size zb) hk)))); (case aO => exact (mN_ HO_5.out)); (case aS => exact (below_size zb)); (case aL => have := LMc24.out; omega); intro v184 w25 ho hb hg hat; rw [← Ny183.out] at ho; have _ := aM (Kd.V_afterv (ok := (fun k_ => ((P0_ k_ ∨ P1_ k_) ∨ w.heap.size ≤ k_))) (mV_ HO_0.out) hg hat); have _ := aM (Kd.V_afterv (ok := (fun k_ => ((P0_ k_ ∨ P1_ k_) ∨ w.heap.size ≤ k_))) (mV_ HO_1.out) hg hat); have _ := aM (hb); have _ := aM (ho); clear HO_0 HO_1 HB HO_5; rename_i HO_0 HO_1 HB HO185; clear ho hb hg hat))
    go_ret
    exact ⟨_, zw, Kd.N_V (mN_ HO185.out), zb⟩
   rw [if_pos c5] at H
   have c5b0 : decide (x7_1 < (l0.length : Int)) = true := decide_eq_true c5
   clear c5
   by_cases c6 : 0 ≤ x7_1
   rotate_left
   ·rw [if_neg c6] at H
    exact absurd H (by simp)
   rw [if_pos c6] at H
   have c6b0 : decide (0 ≤ x7_1) = true := decide_eq_true c6
   clear c6
   replace H := Option.bind_eq_some_iff.mp H
   obtain ⟨t187, A70, H⟩ := H
   replace H : (if t187 = 0 then (some l0) else (if t187 < 0 then (if x6_1 = true then (if x5_1.length < 5864062014805 then (spec_l03Add.l0 k1 l0 l1 (x5_1 ++ [rd_L2 l0 x7_1]) x6_1 (wrap64 (x7_1 + 1))) else (none)) else (if x5_1.length < 5864062014805 then ((some (x5_1 ++ [l1] : List (List (S82)))).bind fun y192 => (if y192.length < 5864062014805 then (spec_l03Add.l0 k1 l0 l1 (y192 ++ [rd_L2 l0 x7_1]) true (wrap64 (x7_1 + 1))) else (none))) else (none))) else (if x5_1.length < 5864062014805 then (spec_l03Add.l0 k1 l0 l1 (x5_1 ++ [rd_L2 l0 x7_1]) x6_1 (wrap64 (x7_1 + 1))) else (none)))) = some r := H
   have A7 := aM A70
   clear A70
   by_cases c8 : t187 = 0
   ·rw [if_pos c8] at H
    have c8b0 : (t187 == 0) = true := beq_iff_eq.mpr c8
    have c8b1 : (t187 != 0) = false := bne_eq_false_iff_eq.mpr c8
    clear c8
    obtain rfl := Option.some.inj H
    have p186 : 0 ≤ (x7_1 : Int) := of_decide_eq_true za
    have q186 : x7_1 < (l0.length : Int) := of_decide_eq_true za
    obtain ⟨ad186, A186_0, c186_0, e186, hx186_0, hl186_0, hi186_0⟩ := at_L2 (Kd.V_reads' HO_0.out).2.2 x7_1 p186 q186
    cases e186
    obtain ⟨ce186, hce186, hMe186, hcc186⟩ := Kd.V_get HO_0.out [] x7_1 p186 (by first | exact q186 | exact of_decide_eq_true za | (have e_ := (Kd.V_reads' HO_0.out).1; omega))
    obtain ⟨ua186_0, uc186_0, rfl, ul186_0, ge186_0⟩ := Kd.FK_slice_open hMe186
    have hv186_0 := hcc186 0 _ rfl
    rw [Nat.add_zero, show ((Kd.slice 82 k82)).sz = 1 from rfl, Nat.mul_one] at hv186_0
    replace hv186_0 := Option.some.inj (hv186_0.symm.trans hx186_0)
    injection hv186_0 with hva_ hvn_ hvc_
    rw [hva_] at ge186_0
    rw [hvc_] at ul186_0
    have HL186_0 := aM (show Kd.V k82 82 _ w.heap.size _ _ (rd_L2 l0 x7_1) from Kd.V_mk ul186_0 ge186_0)
    clear hva_ hvn_ hvc_ ge186_0 ul186_0
    clear hcc186 hce186
    have HR186_0 := aM hi186_0
    have HC186_0 := aM hl186_0
    clear hi186_0 hl186_0
    replace p186 := eq_true p186
    replace q186 := eq_true q186
    go_wp2_with (first | ((with_reducible refine gate_callee (f := 86) rfl ?_); refine goesL_ (some 21) rfl rfl Tryz.func86 (by kernel_rfl) rfl #[.slice A1 l1.length c1, .slice A186_0 (rd_L2 l0 x7_1).length c186_0] rfl zm ?_; (with_reducible refine (spec_CompareShapes.calls k1 _ _ l1 _ _ (rd_L2 l0 x7_1) t187 _ ?side1 ?side2 ?side3 ?side4 A7.out).mono ?_); (case side1 => repeat (first | exact (Kd.V_reads' HO_1.out).2.2 | (with_reducible refine Kd.C_alloc ?_ _) | (with_reducible refine Kd.C_drewN ?_ _) | (with_reducible refine Kd.C_drew ?_))); (case side2 => exact (Kd.V_reads' HO_1.out).2.1); (case side3 => repeat (first | exact (mQ_ HR186_0.out) | (with_reducible refine Kd.C_alloc ?_ _) | (with_reducible refine Kd.C_drewN ?_ _) | (with_reducible refine Kd.C_drew ?_))); (case side4 => exact HC186_0.out); rintro e w9 ⟨rfl, hb⟩; refine ⟨_, rfl, ?_⟩; have _ := aM (Kd.V_below (mV_ HO_0.out) hb); have _ := aM (Kd.V_below (mV_ HO_1.out) hb); have _ := aM (Kd.N_below (mN_ HO_5.out) hb); have _ := aM (Kd.V_below (mV_ HL186_0.out) hb); have _ := aM (Kd.C_below (mQ_ HR186_0.out) hb); have _ := aM (below_step zb hb); clear HO_0 HO_1 HO_5 HL186_0 HR186_0 HB; rename_i HO_0 HO_1 HO_5 HL186_0 HR186_0 HB; (try clear hb); (try clear hb2); (try clear hk); (try clear hi)))
    go_ret
    exact ⟨_, zw, zd3 HO_0.out, zb⟩
   rw [if_neg c8] at H
   have c8b0 : (t187 == 0) = false := beq_eq_false_iff_ne.mpr c8
   have c8b1 : (t187 != 0) = true := bne_iff_ne.mpr c8
   by_cases c10 : t187 < 0
   rotate_left
   ·rw [if_neg c10] at H
    have c10b0 : decide (t187 < 0) = false := decide_eq_false c10
    clear c10
    by_cases c20 : x5_1.length < 5864062014805
    rotate_left
    ·rw [if_neg c20] at H
     exact absurd H (by simp)
    rw [if_pos c20] at H
    have LMc20 := aM c20
    clear c20
    obtain ⟨y200, hy200⟩ : ∃ y_ : List (List (S82)), y_ = (x5_1 ++ [rd_L2 l0 x7_1]) := ⟨_, rfl⟩
    replace H : (spec_l03Add.l0 k1 l0 l1 y200 x6_1 (wrap64 (x7_1 + 1))) = some r := zy H hy200
    have Ny200 := aM hy200
    clear hy200
    have H' := aM H
    clear H
    have p186 : 0 ≤ (x7_1 : Int) := of_decide_eq_true za
    have q186 : x7_1 < (l0.length : Int) := of_decide_eq_true za
    obtain ⟨ad186, A186_0, c186_0, e186, hx186_0, hl186_0, hi186_0⟩ := at_L2 (Kd.V_reads' HO_0.out).2.2 x7_1 p186 q186
    cases e186
    obtain ⟨ce186, hce186, hMe186, hcc186⟩ := Kd.V_get HO_0.out [] x7_1 p186 (by first | exact q186 | exact of_decide_eq_true za | (have e_ := (Kd.V_reads' HO_0.out).1; omega))
    obtain ⟨ua186_0, uc186_0, rfl, ul186_0, ge186_0⟩ := Kd.FK_slice_open hMe186
    have hv186_0 := hcc186 0 _ rfl
    rw [Nat.add_zero, show ((Kd.slice 82 k82)).sz = 1 from rfl, Nat.mul_one] at hv186_0
    replace hv186_0 := Option.some.inj (hv186_0.symm.trans hx186_0)
    injection hv186_0 with hva_ hvn_ hvc_
    rw [hva_] at ge186_0
    rw [hvc_] at ul186_0
    have HL186_0 := aM (show Kd.V k82 82 _ w.heap.size _ _ (rd_L2 l0 x7_1) from Kd.V_mk ul186_0 ge186_0)
    clear hva_ hvn_ hvc_ ge186_0 ul186_0
    clear hcc186 hce186
    have HR186_0 := aM hi186_0
    have HC186_0 := aM hl186_0
    clear hi186_0 hl186_0
    replace p186 := eq_true p186
    replace q186 := eq_true q186
    go_wp2_with (first | ((with_reducible refine gate_callee (f := 86) rfl ?_); refine goesL_ (some 21) rfl rfl Tryz.func86 (by kernel_rfl) rfl #[.slice A1 l1.length c1, .slice A186_0 (rd_L2 l0 x7_1).length c186_0] rfl zm ?_; (with_reducible refine (spec_CompareShapes.calls k1 _ _ l1 _ _ (rd_L2 l0 x7_1) t187 _ ?side1 ?side2 ?side3 ?side4 A7.out).mono ?_); (case side1 => repeat (first | exact (Kd.V_reads' HO_1.out).2.2 | (with_reducible refine Kd.C_alloc ?_ _) | (with_reducible refine Kd.C_drewN ?_ _) | (with_reducible refine Kd.C_drew ?_))); (case side2 => exact (Kd.V_reads' HO_1.out).2.1); (case side3 => repeat (first | exact (mQ_ HR186_0.out) | (with_reducible refine Kd.C_alloc ?_ _) | (with_reducible refine Kd.C_drewN ?_ _) | (with_reducible refine Kd.C_drew ?_))); (case side4 => exact HC186_0.out); rintro e w21 ⟨rfl, hb⟩; refine ⟨_, rfl, ?_⟩; have _ := aM (Kd.V_below (mV_ HO_0.out) hb); have _ := aM (Kd.V_below (mV_ HO_1.out) hb); have _ := aM (Kd.N_below (mN_ HO_5.out) hb); have _ := aM (Kd.V_below (mV_ HL186_0.out) hb); have _ := aM (Kd.C_below (mQ_ HR186_0.out) hb); have _ := aM (below_step zb hb); clear HO_0 HO_1 HO_5 HL186_0 HR186_0 HB; rename_i HO_0 HO_1 HO_5 HL186_0 HR186_0 HB; (try clear hb); (try clear hb2); (try clear hk); (try clear hi); have p199 : 0 ≤ (x7_1 : Int) := of_decide_eq_true za; have q199 : x7_1 < (l0.length : Int) := of_decide_eq_true za; obtain ⟨ad199, A199_0, c199_0, e199, hx199_0, hl199_0, hi199_0⟩ := at_L2 (Kd.V_reads' HO_0.out).2.2 x7_1 p199 q199; obtain rfl : ad186 = ad199 := (by injection e199); obtain ⟨ce199, hce199, hMe199, hcc199⟩ := Kd.V_get HO_0.out [] x7_1 p199 (by first | exact q199 | exact of_decide_eq_true za | (have e_ := (Kd.V_reads' HO_0.out).1; omega)); obtain ⟨ua199_0, uc199_0, rfl, ul199_0, ge199_0⟩ := Kd.FK_slice_open hMe199; have hv199_0 := hcc199 0 _ rfl; rw [Nat.add_zero, show ((Kd.slice 82 k82)).sz = 1 from rfl, Nat.mul_one] at hv199_0; replace hv199_0 := Option.some.inj (hv199_0.symm.trans hx199_0); injection hv199_0 with hva_ hvn_ hvc_; rw [hva_] at ge199_0; rw [hvc_] at ul199_0; have HL199_0 := aM (show Kd.V k82 82 _ w.heap.size _ _ (rd_L2 l0 x7_1) from Kd.V_mk ul199_0 ge199_0); clear hva_ hvn_ hvc_ ge199_0 ul199_0 hcc199 hce199; have HR199_0 := aM hi199_0; have HC199_0 := aM hl199_0; clear hi199_0 hl199_0; replace p199 := eq_true p199; replace q199 := eq_true q199) | ((with_reducible refine gate_builtin (b := .append) (xs := #[.tmp 35, .tmp 40]) rfl ?_); at_builtin; refine Kd.N_append (Kd.slice 82 k82) (w0 := w) w.heap.size rfl (.tmp 35) (.tmp 40) 97 28 (.slice none 0 0) 24 rfl Tryz.underlying97 info28 rfl (by decide) (by omega) u5 x5_1 (rd_L2 l0 x7_1) [.slice A199_0 (rd_L2 l0 x7_1).length c199_0] (fun k_ => ((P0_ k_ ∨ P1_ k_) ∨ w.heap.size ≤ k_)) (fun k_ => ((fun k_ => ((P0_ k_ ∨ P1_ k_) ∨ w.heap.size ≤ k_))) k_ ∧ some k_ ≠ (u5 : Value).ownBlock) rfl rfl ?aP (fun _ hk => hk) ?aF ?aO ?aB ?aS ?aL ?_; (case aP => first | exact (Kd.FK_slice_mk (Kd.V_reads' (Kd.V_mono (ok' := (fun k_ => ((fun k_ => ((P0_ k_ ∨ P1_ k_) ∨ w.heap.size ≤ k_))) k_ ∧ some k_ ≠ (u5 : Value).ownBlock)) (Kd.V_drewN HL199_0.out _) (fun k_ hk => ⟨hk.1, hk.2⟩))).2.1 (Kd.V_F (Kd.V_mono (ok' := (fun k_ => ((fun k_ => ((P0_ k_ ∨ P1_ k_) ∨ w.heap.size ≤ k_))) k_ ∧ some k_ ≠ (u5 : Value).ownBlock)) (Kd.V_drewN HL199_0.out _) (fun k_ hk => ⟨hk.1, hk.2⟩)))) | exact (Kd.FK_slice_mk (Kd.V_reads' (Kd.V_mono (ok' := (fun k_ => ((fun k_ => ((P0_ k_ ∨ P1_ k_) ∨ w.heap.size ≤ k_))) k_ ∧ some k_ ≠ (u5 : Value).ownBlock)) (HL199_0.out) (fun k_ hk => ⟨hk.1, hk.2⟩))).2.1 (Kd.V_F (Kd.V_mono (ok' := (fun k_ => ((fun k_ => ((P0_ k_ ∨ P1_ k_) ∨ w.heap.size ≤ k_))) k_ ∧ some k_ ≠ (u5 : Value).ownBlock)) (HL199_0.out) (fun k_ hk => ⟨hk.1, hk.2⟩)))) | exact (Kd.FK_slice_mk (Kd.V_reads' (Kd.V_mono (ok' := (fun k_ => ((fun k_ => ((P0_ k_ ∨ P1_ k_) ∨ w.heap.size ≤ k_))) k_ ∧ some k_ ≠ (u5 : Value).ownBlock)) (Kd.V_alloc (Kd.V_drewN HL199_0.out _) _) (fun k_ hk => ⟨hk.1, hk.2⟩))).2.1 (Kd.V_F (Kd.V_mono (ok' := (fun k_ => ((fun k_ => ((P0_ k_ ∨ P1_ k_) ∨ w.heap.size ≤ k_))) k_ ∧ some k_ ≠ (u5 : Value).ownBlock)) (Kd.V_alloc (Kd.V_drewN HL199_0.out _) _) (fun k_ hk => ⟨hk.1, hk.2⟩)))) | (have h2_ := Kd.V_mono (ok' := (fun k_ => ((fun k_ => ((P0_ k_ ∨ P1_ k_) ∨ w.heap.size ≤ k_))) k_ ∧ some k_ ≠ (u5 : Value).ownBlock)) (Kd.V_drewN HL199_0.out nd) (fun k_ hk => ⟨hk.1, hk.2⟩); exact Kd.FK_slice_mk (Kd.V_reads' h2_).2.1 (Kd.V_F h2_))); (case aB => exact zb); (case aF => exact (fun k_ hk => (.inr (Nat.le_trans (below_size zb) hk)))); (case aO => exact (mN_ HO_5.out)); (case aS => exact (below_size zb)); (case aL => have := LMc20.out; omega); intro v201 w22 ho hb hg hat; rw [← Ny200.out] at ho; have _ := aM (Kd.V_afterv (ok := (fun k_ => ((P0_ k_ ∨ P1_ k_) ∨ w.heap.size ≤ k_))) (mV_ HO_0.out) hg hat); have _ := aM (Kd.V_afterv (ok := (fun k_ => ((P0_ k_ ∨ P1_ k_) ∨ w.heap.size ≤ k_))) (mV_ HO_1.out) hg hat); have _ := aM (Kd.V_afterv (ok := (fun k_ => ((P0_ k_ ∨ P1_ k_) ∨ w.heap.size ≤ k_))) (mV_ HL186_0.out) hg hat); have _ := aM (Kd.V_afterv (ok := (fun k_ => ((P0_ k_ ∨ P1_ k_) ∨ w.heap.size ≤ k_))) (mV_ HL199_0.out) hg hat); have _ := aM (hb); have _ := aM (ho); clear HO_0 HO_1 HL186_0 HL199_0 HB HO_5; rename_i HO_0 HO_1 HL186_0 HL199_0 HB HO202; clear ho hb hg hat))
    go_roundg k1
    case measure => have := HK1.out; omega
    case rel => exact ⟨(y200), (x6_1), (wrap64 (x7_1 + 1)), zr, zr, H', ⟨by have := HK1.out; omega⟩, ⟨mV_ HO_0.out⟩, ⟨mV_ HO_1.out⟩, ⟨mN_ HO202.out⟩, ⟨zb⟩⟩
   rw [if_pos c10] at H
   have c10b0 : decide (t187 < 0) = true := decide_eq_true c10
   clear c10
   by_cases c11 : x6_1 = true
   ·subst c11
    have H1 : (if x5_1.length < 5864062014805 then (spec_l03Add.l0 k1 l0 l1 (x5_1 ++ [rd_L2 l0 x7_1]) true (wrap64 (x7_1 + 1))) else (none)) = some r := by rw [if_pos rfl] at H; exact H
    clear H
    have H := H1
    clear H1
    by_cases c12 : x5_1.length < 5864062014805
    rotate_left
    ·rw [if_neg c12] at H
     exact absurd H (by simp)
    rw [if_pos c12] at H
    have LMc12 := aM c12
    clear c12
    obtain ⟨y189, hy189⟩ : ∃ y_ : List (List (S82)), y_ = (x5_1 ++ [rd_L2 l0 x7_1]) := ⟨_, rfl⟩
    replace H : (spec_l03Add.l0 k1 l0 l1 y189 true (wrap64 (x7_1 + 1))) = some r := zy H hy189
    have Ny189 := aM hy189
    clear hy189
    have H' := aM H
    clear H
    have p186 : 0 ≤ (x7_1 : Int) := of_decide_eq_true za
    have q186 : x7_1 < (l0.length : Int) := of_decide_eq_true za
    obtain ⟨ad186, A186_0, c186_0, e186, hx186_0, hl186_0, hi186_0⟩ := at_L2 (Kd.V_reads' HO_0.out).2.2 x7_1 p186 q186
    cases e186
    obtain ⟨ce186, hce186, hMe186, hcc186⟩ := Kd.V_get HO_0.out [] x7_1 p186 (by first | exact q186 | exact of_decide_eq_true za | (have e_ := (Kd.V_reads' HO_0.out).1; omega))
    obtain ⟨ua186_0, uc186_0, rfl, ul186_0, ge186_0⟩ := Kd.FK_slice_open hMe186
    have hv186_0 := hcc186 0 _ rfl
    rw [Nat.add_zero, show ((Kd.slice 82 k82)).sz = 1 from rfl, Nat.mul_one] at hv186_0
    replace hv186_0 := Option.some.inj (hv186_0.symm.trans hx186_0)
    injection hv186_0 with hva_ hvn_ hvc_
    rw [hva_] at ge186_0
    rw [hvc_] at ul186_0
    have HL186_0 := aM (show Kd.V k82 82 _ w.heap.size _ _ (rd_L2 l0 x7_1) from Kd.V_mk ul186_0 ge186_0)
    clear hva_ hvn_ hvc_ ge186_0 ul186_0
    clear hcc186 hce186
    have HR186_0 := aM hi186_0
    have HC186_0 := aM hl186_0
    clear hi186_0 hl186_0
    replace p186 := eq_true p186
    replace q186 := eq_true q186
    go_wp2_with (first | ((with_reducible refine gate_callee (f := 86) rfl ?_); refine goesL_ (some 21) rfl rfl Tryz.func86 (by kernel_rfl) rfl #[.slice A1 l1.length c1, .slice A186_0 (rd_L2 l0 x7_1).length c186_0] rfl zm ?_; (with_reducible refine (spec_CompareShapes.calls k1 _ _ l1 _ _ (rd_L2 l0 x7_1) t187 _ ?side1 ?side2 ?side3 ?side4 A7.out).mono ?_); (case side1 => repeat (first | exact (Kd.V_reads' HO_1.out).2.2 | (with_reducible refine Kd.C_alloc ?_ _) | (with_reducible refine Kd.C_drewN ?_ _) | (with_reducible refine Kd.C_drew ?_))); (case side2 => exact (Kd.V_reads' HO_1.out).2.1); (case side3 => repeat (first | exact (mQ_ HR186_0.out) | (with_reducible refine Kd.C_alloc ?_ _) | (with_reducible refine Kd.C_drewN ?_ _) | (with_reducible refine Kd.C_drew ?_))); (case side4 => exact HC186_0.out); rintro e w13 ⟨rfl, hb⟩; refine ⟨_, rfl, ?_⟩; have _ := aM (Kd.V_below (mV_ HO_0.out) hb); have _ := aM (Kd.V_below (mV_ HO_1.out) hb); have _ := aM (Kd.N_below (mN_ HO_5.out) hb); have _ := aM (Kd.V_below (mV_ HL186_0.out) hb); have _ := aM (Kd.C_below (mQ_ HR186_0.out) hb); have _ := aM (below_step zb hb); clear HO_0 HO_1 HO_5 HL186_0 HR186_0 HB; rename_i HO_0 HO_1 HO_5 HL186_0 HR186_0 HB; (try clear hb); (try clear hb2); (try clear hk); (try clear hi); have p188 : 0 ≤ (x7_1 : Int) := of_decide_eq_true za; have q188 : x7_1 < (l0.length : Int) := of_decide_eq_true za; obtain ⟨ad188, A188_0, c188_0, e188, hx188_0, hl188_0, hi188_0⟩ := at_L2 (Kd.V_reads' HO_0.out).2.2 x7_1 p188 q188; obtain rfl : ad186 = ad188 := (by injection e188); obtain ⟨ce188, hce188, hMe188, hcc188⟩ := Kd.V_get HO_0.out [] x7_1 p188 (by first | exact q188 | exact of_decide_eq_true za | (have e_ := (Kd.V_reads' HO_0.out).1; omega)); obtain ⟨ua188_0, uc188_0, rfl, ul188_0, ge188_0⟩ := Kd.FK_slice_open hMe188; have hv188_0 := hcc188 0 _ rfl; rw [Nat.add_zero, show ((Kd.slice 82 k82)).sz = 1 from rfl, Nat.mul_one] at hv188_0; replace hv188_0 := Option.some.inj (hv188_0.symm.trans hx188_0); injection hv188_0 with hva_ hvn_ hvc_; rw [hva_] at ge188_0; rw [hvc_] at ul188_0; have HL188_0 := aM (show Kd.V k82 82 _ w.heap.size _ _ (rd_L2 l0 x7_1) from Kd.V_mk ul188_0 ge188_0); clear hva_ hvn_ hvc_ ge188_0 ul188_0 hcc188 hce188; have HR188_0 := aM hi188_0; have HC188_0 := aM hl188_0; clear hi188_0 hl188_0; replace p188 := eq_true p188; replace q188 := eq_true q188) | ((with_reducible refine gate_builtin (b := .append) (xs := #[.tmp 35, .tmp 40]) rfl ?_); at_builtin; refine Kd.N_append (Kd.slice 82 k82) (w0 := w) w.heap.size rfl (.tmp 35) (.tmp 40) 97 28 (.slice none 0 0) 24 rfl Tryz.underlying97 info28 rfl (by decide) (by omega) u5 x5_1 (rd_L2 l0 x7_1) [.slice A188_0 (rd_L2 l0 x7_1).length c188_0] (fun k_ => ((P0_ k_ ∨ P1_ k_) ∨ w.heap.size ≤ k_)) (fun k_ => ((fun k_ => ((P0_ k_ ∨ P1_ k_) ∨ w.heap.size ≤ k_))) k_ ∧ some k_ ≠ (u5 : Value).ownBlock) rfl rfl ?aP (fun _ hk => hk) ?aF ?aO ?aB ?aS ?aL ?_; (case aP => first | exact (Kd.FK_slice_mk (Kd.V_reads' (Kd.V_mono (ok' := (fun k_ => ((fun k_ => ((P0_ k_ ∨ P1_ k_) ∨ w.heap.size ≤ k_))) k_ ∧ some k_ ≠ (u5 : Value).ownBlock)) (Kd.V_drewN HL188_0.out _) (fun k_ hk => ⟨hk.1, hk.2⟩))).2.1 (Kd.V_F (Kd.V_mono (ok' := (fun k_ => ((fun k_ => ((P0_ k_ ∨ P1_ k_) ∨ w.heap.size ≤ k_))) k_ ∧ some k_ ≠ (u5 : Value).ownBlock)) (Kd.V_drewN HL188_0.out _) (fun k_ hk => ⟨hk.1, hk.2⟩)))) | exact (Kd.FK_slice_mk (Kd.V_reads' (Kd.V_mono (ok' := (fun k_ => ((fun k_ => ((P0_ k_ ∨ P1_ k_) ∨ w.heap.size ≤ k_))) k_ ∧ some k_ ≠ (u5 : Value).ownBlock)) (HL188_0.out) (fun k_ hk => ⟨hk.1, hk.2⟩))).2.1 (Kd.V_F (Kd.V_mono (ok' := (fun k_ => ((fun k_ => ((P0_ k_ ∨ P1_ k_) ∨ w.heap.size ≤ k_))) k_ ∧ some k_ ≠ (u5 : Value).ownBlock)) (HL188_0.out) (fun k_ hk => ⟨hk.1, hk.2⟩)))) | exact (Kd.FK_slice_mk (Kd.V_reads' (Kd.V_mono (ok' := (fun k_ => ((fun k_ => ((P0_ k_ ∨ P1_ k_) ∨ w.heap.size ≤ k_))) k_ ∧ some k_ ≠ (u5 : Value).ownBlock)) (Kd.V_alloc (Kd.V_drewN HL188_0.out _) _) (fun k_ hk => ⟨hk.1, hk.2⟩))).2.1 (Kd.V_F (Kd.V_mono (ok' := (fun k_ => ((fun k_ => ((P0_ k_ ∨ P1_ k_) ∨ w.heap.size ≤ k_))) k_ ∧ some k_ ≠ (u5 : Value).ownBlock)) (Kd.V_alloc (Kd.V_drewN HL188_0.out _) _) (fun k_ hk => ⟨hk.1, hk.2⟩)))) | (have h2_ := Kd.V_mono (ok' := (fun k_ => ((fun k_ => ((P0_ k_ ∨ P1_ k_) ∨ w.heap.size ≤ k_))) k_ ∧ some k_ ≠ (u5 : Value).ownBlock)) (Kd.V_drewN HL188_0.out nd) (fun k_ hk => ⟨hk.1, hk.2⟩); exact Kd.FK_slice_mk (Kd.V_reads' h2_).2.1 (Kd.V_F h2_))); (case aB => exact zb); (case aF => exact (fun k_ hk => (.inr (Nat.le_trans (below_size zb) hk)))); (case aO => exact (mN_ HO_5.out)); (case aS => exact (below_size zb)); (case aL => have := LMc12.out; omega); intro v190 w14 ho hb hg hat; rw [← Ny189.out] at ho; have _ := aM (Kd.V_afterv (ok := (fun k_ => ((P0_ k_ ∨ P1_ k_) ∨ w.heap.size ≤ k_))) (mV_ HO_0.out) hg hat); have _ := aM (Kd.V_afterv (ok := (fun k_ => ((P0_ k_ ∨ P1_ k_) ∨ w.heap.size ≤ k_))) (mV_ HO_1.out) hg hat); have _ := aM (Kd.V_afterv (ok := (fun k_ => ((P0_ k_ ∨ P1_ k_) ∨ w.heap.size ≤ k_))) (mV_ HL186_0.out) hg hat); have _ := aM (Kd.V_afterv (ok := (fun k_ => ((P0_ k_ ∨ P1_ k_) ∨ w.heap.size ≤ k_))) (mV_ HL188_0.out) hg hat); have _ := aM (hb); have _ := aM (ho); clear HO_0 HO_1 HL186_0 HL188_0 HB HO_5; rename_i HO_0 HO_1 HL186_0 HL188_0 HB HO191; clear ho hb hg hat))
    go_roundg k1
    case measure => have := HK1.out; omega
    case rel => exact ⟨(y189), (true), (wrap64 (x7_1 + 1)), zr, zr, H', ⟨by have := HK1.out; omega⟩, ⟨mV_ HO_0.out⟩, ⟨mV_ HO_1.out⟩, ⟨mN_ HO191.out⟩, ⟨zb⟩⟩
   replace c11 := Bool.eq_false_iff.mpr c11
   subst c11
   have H1 : (if x5_1.length < 5864062014805 then ((some (x5_1 ++ [l1] : List (List (S82)))).bind fun y192 => (if y192.length < 5864062014805 then (spec_l03Add.l0 k1 l0 l1 (y192 ++ [rd_L2 l0 x7_1]) true (wrap64 (x7_1 + 1))) else (none))) else (none)) = some r := by rw [if_neg (show ¬ (false = true) by decide)] at H; exact H
   clear H
   have H := H1
   clear H1
   by_cases c15 : x5_1.length < 5864062014805
   rotate_left
   ·rw [if_neg c15] at H
    exact absurd H (by simp)
   rw [if_pos c15] at H
   have LMc15 := aM c15
   clear c15
   obtain ⟨y192, hy192⟩ : ∃ y_ : List (List (S82)), y_ = (x5_1 ++ [l1]) := ⟨_, rfl⟩
   replace H : (if y192.length < 5864062014805 then (spec_l03Add.l0 k1 l0 l1 (y192 ++ [rd_L2 l0 x7_1]) true (wrap64 (x7_1 + 1))) else (none)) = some r := zy H hy192
   have Ny192 := aM hy192
   clear hy192
   by_cases c16 : y192.length < 5864062014805
   rotate_left
   ·rw [if_neg c16] at H
    exact absurd H (by simp)
   rw [if_pos c16] at H
   have LMc16 := aM c16
   clear c16
   obtain ⟨y196, hy196⟩ : ∃ y_ : List (List (S82)), y_ = (y192 ++ [rd_L2 l0 x7_1]) := ⟨_, rfl⟩
   replace H : (spec_l03Add.l0 k1 l0 l1 y196 true (wrap64 (x7_1 + 1))) = some r := zy H hy196
   have Ny196 := aM hy196
   clear hy196
   have H' := aM H
   clear H
   have p186 : 0 ≤ (x7_1 : Int) := of_decide_eq_true za
   have q186 : x7_1 < (l0.length : Int) := of_decide_eq_true za
   obtain ⟨ad186, A186_0, c186_0, e186, hx186_0, hl186_0, hi186_0⟩ := at_L2 (Kd.V_reads' HO_0.out).2.2 x7_1 p186 q186
   cases e186
   obtain ⟨ce186, hce186, hMe186, hcc186⟩ := Kd.V_get HO_0.out [] x7_1 p186 (by first | exact q186 | exact of_decide_eq_true za | (have e_ := (Kd.V_reads' HO_0.out).1; omega))
   obtain ⟨ua186_0, uc186_0, rfl, ul186_0, ge186_0⟩ := Kd.FK_slice_open hMe186
   have hv186_0 := hcc186 0 _ rfl
   rw [Nat.add_zero, show ((Kd.slice 82 k82)).sz = 1 from rfl, Nat.mul_one] at hv186_0
   replace hv186_0 := Option.some.inj (hv186_0.symm.trans hx186_0)
   injection hv186_0 with hva_ hvn_ hvc_
   rw [hva_] at ge186_0
   rw [hvc_] at ul186_0
   have HL186_0 := aM (show Kd.V k82 82 _ w.heap.size _ _ (rd_L2 l0 x7_1) from Kd.V_mk ul186_0 ge186_0)
   clear hva_ hvn_ hvc_ ge186_0 ul186_0
   clear hcc186 hce186
   have HR186_0 := aM hi186_0
   have HC186_0 := aM hl186_0
   clear hi186_0 hl186_0
   replace p186 := eq_true p186
   replace q186 := eq_true q186
   go_wp2_with (first | ((with_reducible refine gate_callee (f := 86) rfl ?_); refine goesL_ (some 21) rfl rfl Tryz.func86 (by kernel_rfl) rfl #[.slice A1 l1.length c1, .slice A186_0 (rd_L2 l0 x7_1).length c186_0] rfl zm ?_; (with_reducible refine (spec_CompareShapes.calls k1 _ _ l1 _ _ (rd_L2 l0 x7_1) t187 _ ?side1 ?side2 ?side3 ?side4 A7.out).mono ?_); (case side1 => repeat (first | exact (Kd.V_reads' HO_1.out).2.2 | (with_reducible refine Kd.C_alloc ?_ _) | (with_reducible refine Kd.C_drewN ?_ _) | (with_reducible refine Kd.C_drew ?_))); (case side2 => exact (Kd.V_reads' HO_1.out).2.1); (case side3 => repeat (first | exact (mQ_ HR186_0.out) | (with_reducible refine Kd.C_alloc ?_ _) | (with_reducible refine Kd.C_drewN ?_ _) | (with_reducible refine Kd.C_drew ?_))); (case side4 => exact HC186_0.out); rintro e w17 ⟨rfl, hb⟩; refine ⟨_, rfl, ?_⟩; have _ := aM (Kd.V_below (mV_ HO_0.out) hb); have _ := aM (Kd.V_below (mV_ HO_1.out) hb); have _ := aM (Kd.N_below (mN_ HO_5.out) hb); have _ := aM (Kd.V_below (mV_ HL186_0.out) hb); have _ := aM (Kd.C_below (mQ_ HR186_0.out) hb); have _ := aM (below_step zb hb); clear HO_0 HO_1 HO_5 HL186_0 HR186_0 HB; rename_i HO_0 HO_1 HO_5 HL186_0 HR186_0 HB; (try clear hb); (try clear hb2); (try clear hk); (try clear hi)) | ((with_reducible refine gate_builtin (b := .append) (xs := #[.tmp 31, .tmp 33]) rfl ?_); at_builtin; refine Kd.N_append (Kd.slice 82 k82) (w0 := w) w.heap.size rfl (.tmp 31) (.tmp 33) 97 28 (.slice none 0 0) 24 rfl Tryz.underlying97 info28 rfl (by decide) (by omega) u5 x5_1 l1 [.slice A1 l1.length c1] (fun k_ => ((P0_ k_ ∨ P1_ k_) ∨ w.heap.size ≤ k_)) (fun k_ => ((fun k_ => ((P0_ k_ ∨ P1_ k_) ∨ w.heap.size ≤ k_))) k_ ∧ some k_ ≠ (u5 : Value).ownBlock) rfl rfl ?aP (fun _ hk => hk) ?aF ?aO ?aB ?aS ?aL ?_; (case aP => first | exact (Kd.FK_slice_mk (Kd.V_reads' (Kd.V_mono (ok' := (fun k_ => ((fun k_ => ((P0_ k_ ∨ P1_ k_) ∨ w.heap.size ≤ k_))) k_ ∧ some k_ ≠ (u5 : Value).ownBlock)) (Kd.V_drewN HO_1.out _) (fun k_ hk => ⟨hk.1, hk.2⟩))).2.1 (Kd.V_F (Kd.V_mono (ok' := (fun k_ => ((fun k_ => ((P0_ k_ ∨ P1_ k_) ∨ w.heap.size ≤ k_))) k_ ∧ some k_ ≠ (u5 : Value).ownBlock)) (Kd.V_drewN HO_1.out _) (fun k_ hk => ⟨hk.1, hk.2⟩)))) | exact (Kd.FK_slice_mk (Kd.V_reads' (Kd.V_mono (ok' := (fun k_ => ((fun k_ => ((P0_ k_ ∨ P1_ k_) ∨ w.heap.size ≤ k_))) k_ ∧ some k_ ≠ (u5 : Value).ownBlock)) (HO_1.out) (fun k_ hk => ⟨hk.1, hk.2⟩))).2.1 (Kd.V_F (Kd.V_mono (ok' := (fun k_ => ((fun k_ => ((P0_ k_ ∨ P1_ k_) ∨ w.heap.size ≤ k_))) k_ ∧ some k_ ≠ (u5 : Value).ownBlock)) (HO_1.out) (fun k_ hk => ⟨hk.1, hk.2⟩)))) | exact (Kd.FK_slice_mk (Kd.V_reads' (Kd.V_mono (ok' := (fun k_ => ((fun k_ => ((P0_ k_ ∨ P1_ k_) ∨ w.heap.size ≤ k_))) k_ ∧ some k_ ≠ (u5 : Value).ownBlock)) (Kd.V_alloc (Kd.V_drewN HO_1.out _) _) (fun k_ hk => ⟨hk.1, hk.2⟩))).2.1 (Kd.V_F (Kd.V_mono (ok' := (fun k_ => ((fun k_ => ((P0_ k_ ∨ P1_ k_) ∨ w.heap.size ≤ k_))) k_ ∧ some k_ ≠ (u5 : Value).ownBlock)) (Kd.V_alloc (Kd.V_drewN HO_1.out _) _) (fun k_ hk => ⟨hk.1, hk.2⟩)))) | (have h2_ := Kd.V_mono (ok' := (fun k_ => ((fun k_ => ((P0_ k_ ∨ P1_ k_) ∨ w.heap.size ≤ k_))) k_ ∧ some k_ ≠ (u5 : Value).ownBlock)) (Kd.V_drewN HO_1.out nd) (fun k_ hk => ⟨hk.1, hk.2⟩); exact Kd.FK_slice_mk (Kd.V_reads' h2_).2.1 (Kd.V_F h2_))); (case aB => exact zb); (case aF => exact (fun k_ hk => (.inr (Nat.le_trans (below_size zb) hk)))); (case aO => exact (mN_ HO_5.out)); (case aS => exact (below_size zb)); (case aL => have := LMc15.out; omega); intro v193 w18 ho hb hg hat; rw [← Ny192.out] at ho; have _ := aM (Kd.V_afterv (ok := (fun k_ => ((P0_ k_ ∨ P1_ k_) ∨ w.heap.size ≤ k_))) (mV_ HO_0.out) hg hat); have _ := aM (Kd.V_afterv (ok := (fun k_ => ((P0_ k_ ∨ P1_ k_) ∨ w.heap.size ≤ k_))) (mV_ HO_1.out) hg hat); have _ := aM (Kd.V_afterv (ok := (fun k_ => ((P0_ k_ ∨ P1_ k_) ∨ w.heap.size ≤ k_))) (mV_ HL186_0.out) hg hat); have _ := aM (hb); have _ := aM (ho); clear HO_0 HO_1 HL186_0 HB HO_5; rename_i HO_0 HO_1 HL186_0 HB HO194; clear ho hb hg hat; have p195 : 0 ≤ (x7_1 : Int) := of_decide_eq_true za; have q195 : x7_1 < (l0.length : Int) := of_decide_eq_true za; obtain ⟨ad195, A195_0, c195_0, e195, hx195_0, hl195_0, hi195_0⟩ := at_L2 (Kd.V_reads' HO_0.out).2.2 x7_1 p195 q195; obtain rfl : ad186 = ad195 := (by injection e195); obtain ⟨ce195, hce195, hMe195, hcc195⟩ := Kd.V_get HO_0.out [] x7_1 p195 (by first | exact q195 | exact of_decide_eq_true za | (have e_ := (Kd.V_reads' HO_0.out).1; omega)); obtain ⟨ua195_0, uc195_0, rfl, ul195_0, ge195_0⟩ := Kd.FK_slice_open hMe195; have hv195_0 := hcc195 0 _ rfl; rw [Nat.add_zero, show ((Kd.slice 82 k82)).sz = 1 from rfl, Nat.mul_one] at hv195_0; replace hv195_0 := Option.some.inj (hv195_0.symm.trans hx195_0); injection hv195_0 with hva_ hvn_ hvc_; rw [hva_] at ge195_0; rw [hvc_] at ul195_0; have HL195_0 := aM (show Kd.V k82 82 _ w.heap.size _ _ (rd_L2 l0 x7_1) from Kd.V_mk ul195_0 ge195_0); clear hva_ hvn_ hvc_ ge195_0 ul195_0 hcc195 hce195; have HR195_0 := aM hi195_0; have HC195_0 := aM hl195_0; clear hi195_0 hl195_0; replace p195 := eq_true p195; replace q195 := eq_true q195) | ((with_reducible refine gate_builtin (b := .append) (xs := #[.tmp 35, .tmp 40]) rfl ?_); at_builtin; refine Kd.N_append (Kd.slice 82 k82) (w0 := w) w.heap.size rfl (.tmp 35) (.tmp 40) 97 28 (.slice none 0 0) 24 rfl Tryz.underlying97 info28 rfl (by decide) (by omega) v193 y192 (rd_L2 l0 x7_1) [.slice A195_0 (rd_L2 l0 x7_1).length c195_0] (fun k_ => ((P0_ k_ ∨ P1_ k_) ∨ w.heap.size ≤ k_)) (fun k_ => ((fun k_ => ((P0_ k_ ∨ P1_ k_) ∨ w.heap.size ≤ k_))) k_ ∧ some k_ ≠ (v193 : Value).ownBlock) rfl rfl ?aP (fun _ hk => hk) ?aF ?aO ?aB ?aS ?aL ?_; (case aP => first | exact (Kd.FK_slice_mk (Kd.V_reads' (Kd.V_mono (ok' := (fun k_ => ((fun k_ => ((P0_ k_ ∨ P1_ k_) ∨ w.heap.size ≤ k_))) k_ ∧ some k_ ≠ (v193 : Value).ownBlock)) (Kd.V_drewN HL195_0.out _) (fun k_ hk => ⟨hk.1, hk.2⟩))).2.1 (Kd.V_F (Kd.V_mono (ok' := (fun k_ => ((fun k_ => ((P0_ k_ ∨ P1_ k_) ∨ w.heap.size ≤ k_))) k_ ∧ some k_ ≠ (v193 : Value).ownBlock)) (Kd.V_drewN HL195_0.out _) (fun k_ hk => ⟨hk.1, hk.2⟩)))) | exact (Kd.FK_slice_mk (Kd.V_reads' (Kd.V_mono (ok' := (fun k_ => ((fun k_ => ((P0_ k_ ∨ P1_ k_) ∨ w.heap.size ≤ k_))) k_ ∧ some k_ ≠ (v193 : Value).ownBlock)) (HL195_0.out) (fun k_ hk => ⟨hk.1, hk.2⟩))).2.1 (Kd.V_F (Kd.V_mono (ok' := (fun k_ => ((fun k_ => ((P0_ k_ ∨ P1_ k_) ∨ w.heap.size ≤ k_))) k_ ∧ some k_ ≠ (v193 : Value).ownBlock)) (HL195_0.out) (fun k_ hk => ⟨hk.1, hk.2⟩)))) | exact (Kd.FK_slice_mk (Kd.V_reads' (Kd.V_mono (ok' := (fun k_ => ((fun k_ => ((P0_ k_ ∨ P1_ k_) ∨ w.heap.size ≤ k_))) k_ ∧ some k_ ≠ (v193 : Value).ownBlock)) (Kd.V_alloc (Kd.V_drewN HL195_0.out _) _) (fun k_ hk => ⟨hk.1, hk.2⟩))).2.1 (Kd.V_F (Kd.V_mono (ok' := (fun k_ => ((fun k_ => ((P0_ k_ ∨ P1_ k_) ∨ w.heap.size ≤ k_))) k_ ∧ some k_ ≠ (v193 : Value).ownBlock)) (Kd.V_alloc (Kd.V_drewN HL195_0.out _) _) (fun k_ hk => ⟨hk.1, hk.2⟩)))) | (have h2_ := Kd.V_mono (ok' := (fun k_ => ((fun k_ => ((P0_ k_ ∨ P1_ k_) ∨ w.heap.size ≤ k_))) k_ ∧ some k_ ≠ (v193 : Value).ownBlock)) (Kd.V_drewN HL195_0.out nd) (fun k_ hk => ⟨hk.1, hk.2⟩); exact Kd.FK_slice_mk (Kd.V_reads' h2_).2.1 (Kd.V_F h2_))); (case aB => exact zb); (case aF => exact (fun k_ hk => (.inr (Nat.le_trans (below_size zb) hk)))); (case aO => exact (mN_ HO194.out)); (case aS => exact (below_size zb)); (case aL => have := LMc16.out; omega); intro v197 w19 ho hb hg hat; rw [← Ny196.out] at ho; have _ := aM (Kd.V_afterv (ok := (fun k_ => ((P0_ k_ ∨ P1_ k_) ∨ w.heap.size ≤ k_))) (mV_ HO_0.out) hg hat); have _ := aM (Kd.V_afterv (ok := (fun k_ => ((P0_ k_ ∨ P1_ k_) ∨ w.heap.size ≤ k_))) (mV_ HO_1.out) hg hat); have _ := aM (Kd.V_afterv (ok := (fun k_ => ((P0_ k_ ∨ P1_ k_) ∨ w.heap.size ≤ k_))) (mV_ HL186_0.out) hg hat); have _ := aM (Kd.V_afterv (ok := (fun k_ => ((P0_ k_ ∨ P1_ k_) ∨ w.heap.size ≤ k_))) (mV_ HL195_0.out) hg hat); have _ := aM (hb); have _ := aM (ho); clear HO_0 HO_1 HL186_0 HL195_0 HB HO194; rename_i HO_0 HO_1 HL186_0 HL195_0 HB HO198; clear ho hb hg hat))
   go_roundg k1
   case measure => have := HK1.out; omega
   case rel => exact ⟨(y196), (true), (wrap64 (x7_1 + 1)), zr, zr, H', ⟨by have := HK1.out; omega⟩, ⟨mV_ HO_0.out⟩, ⟨mV_ HO_1.out⟩, ⟨mN_ HO198.out⟩, ⟨zb⟩⟩
def spec_l02Move.l0 : Nat → List (S82) → Int → Int → List (S82) → Int → Option ((List (S82)))
 | 0, _, _, _, _, _ => none
 | k + 1, x0, x1, x2, x7, x8 => if x8 < (x0.length : Int) then (if 0 ≤ x8 then (if x7.length < 8796093022208 then (spec_l02Move.l0 k x0 x1 x2 (x7 ++ [(⟨wrap64 (((rd_T82 x0 x8).f0) + x1), wrap64 (((rd_T82 x0 x8).f1) + x2)⟩ : S82)]) (wrap64 (x8 + 1))) else (none)) else (none)) else (some x7)
def spec_l02Move.f (k : Nat) (l0 : List (S82)) (a1 : Int) (a2 : Int) : Option ((List (S82))) := spec_l02Move.l0 k l0 a1 a2 (([] : List (S82))) 0
def spec_l02Move.T5 : Bool × List (List Nat × List Nat) := (true, [([], []), ([], []), ([], []), ([1, 2], [1, 2]), ([3], [3]), ([4], [4]), ([], []), ([5, 6], [5, 6]), ([], []), ([], []), ([8, 9], [8, 9]), ([10], [10]), ([11], [11]), ([], []), ([12, 13], [12, 13]), ([7, 14], [7, 14]), ([15], [15]), ([0, 16], [0, 16]), ([17, 17, 0, 1, 2, 3, 4, 5, 6, 7, 8, 9, 10, 11, 12, 13, 14, 15, 16, 17], [0, 17])])
def spec_l02Move.B5 : List Nat := [0, 0, 0, 6, 14, 30, 0, 126, 0, 0, 768, 1792, 3840, 0, 16128, 32766, 65534, 131071, 262143]
theorem spec_l02Move.tab5 : rtab .any (opsOf Tryz.f87 5) = spec_l02Move.T5 := by kernel_rfl
theorem spec_l02Move.bits5 : waitsOk spec_l02Move.T5.2 spec_l02Move.B5 = true := by kernel_rfl
theorem spec_l02Move.calls (k : Nat) (A0 : Option Addr) (c0 : Nat) (l0 : List (S82)) (a1 : Int) (a2 : Int) (r : List (S82)) (w : World) (hr0 : Kd.C k82 w A0 l0.length l0) (hc0 : l0.length ≤ c0) (h : spec_l02Move.f k l0 a1 a2 = some r) :
  Calls Tryz.prog 87 #[.slice A0 l0.length c0, .int .i64 a1, .int .i64 a2] w fun e w' => ∃ v0_ : Value, e = .returned (v0_) ∧ Kd.R k82 82 w' w.heap.size (fun _ => True) v0_ r ∧ Below w.heap.size w w' := by
 have hu82 := Tryz.underlying82
 have HR0 := aM hr0
 have HC0 := aM hc0
 clear hr0 hc0
 have HB := aM (Below.refl w.heap.size w)
 have H : (spec_l02Move.l0 k l0 a1 a2 (([] : List (S82))) 0) = some r := h
 clear h
 obtain ⟨y203, hy203⟩ : ∃ y_ : List (S82), y_ = (([] : List (S82))) := ⟨_, rfl⟩
 replace H : (spec_l02Move.l0 k l0 a1 a2 y203 0) = some r := zy H hy203
 have Ny203 := aM hy203
 clear hy203
 have H' := aM H
 clear H
 go_enter Tryz.func87, Tryz.ntmps87
 go_wp2_with (first | ((with_reducible refine gate_dst (N := 9) rfl ?_); refine Kd.R_lit k82 _ 82 ?hg (N := 9) ?hd (xs := ([] : List (S82))) (inner := []) (ok := fun _ => True) (okp := fun _ => True) ?hr ?hp (fun _ hk => hk) trivial (Below.refl _ _) (Nat.le_refl _) (by simp) ?_; (case hd => rfl); (case hg => rfl); (case hr => first | (go_simp; done) | (go_simp; rfl)); (case hp => exact (Reps.none _ _)); intro v204 w4 ho5 hb hg_ hnew_; clear hg_ hnew_; (first | rw [← Ny203.out] at ho5 | (simp only [Int.reduceToNat] at ho5; rw [← Ny203.out] at ho5)); have _ := aM (Kd.R_lower ho5 (below_size zb)); have _ := aM (below_step zb hb); clear HB; rename_i HO205 HB; clear hb ho5))
 go_loopg [7, 8] k (fun kq v7 v8 w' => ∃ (x7_1 : List (S82)) (x8_1 : Int), v8 = .int .i64 x8_1 ∧ Aside0 (spec_l02Move.l0 kq l0 a1 a2 x7_1 x8_1 = some r) ∧ Aside0 (kq ≤ k) ∧ Aside0 (Kd.R k82 82 w' w.heap.size (fun _ => True) v7 x7_1) ∧ Aside0 (Below w.heap.size w w'))
 case atStart => exact ⟨(y203), (0), zr, H', ⟨Nat.le_refl _⟩, ⟨mR_ HO205.out⟩, ⟨zb⟩⟩
 case round =>
  clear H'
  try clear p2
  obtain ⟨x7_1, x8_1, rfl, HA, HK1, HO_7, HB⟩ := hrel
  cases gk with
  | zero => exact absurd HA.out (by simp [spec_l02Move.l0])
  | succ k1 =>
   have H := HA.out
   clear HA
   simp only [spec_l02Move.l0] at H
   by_cases c6 : x8_1 < (l0.length : Int)
   rotate_left
   ·rw [if_neg c6] at H
    have c6b0 : decide (x8_1 < (l0.length : Int)) = false := decide_eq_false c6
    clear c6
    obtain rfl := Option.some.inj H
    go_wp2
    go_ret
    exact ⟨_, zw, mR_ HO_7.out, zb⟩
   rw [if_pos c6] at H
   have c6b0 : decide (x8_1 < (l0.length : Int)) = true := decide_eq_true c6
   clear c6
   by_cases c7 : 0 ≤ x8_1
   rotate_left
   ·rw [if_neg c7] at H
    exact absurd H (by simp)
   rw [if_pos c7] at H
   have c7b0 : decide (0 ≤ x8_1) = true := decide_eq_true c7
   clear c7
   by_cases c8 : x7_1.length < 8796093022208
   rotate_left
   ·rw [if_neg c8] at H
    exact absurd H (by simp)
   rw [if_pos c8] at H
   have LMc8 := aM c8
   clear c8
   obtain ⟨y208, hy208⟩ : ∃ y_ : List (S82), y_ = (x7_1 ++ [(⟨wrap64 (((rd_T82 l0 x8_1).f0) + a1), wrap64 (((rd_T82 l0 x8_1).f1) + a2)⟩ : S82)]) := ⟨_, rfl⟩
   replace H : (spec_l02Move.l0 k1 l0 a1 a2 y208 (wrap64 (x8_1 + 1))) = some r := zy H hy208
   have Ny208 := aM hy208
   clear hy208
   have H' := aM H
   clear H
   try go_wp2
   have _ := aM (Kd.R_drew HO_7.out)
   have _ := aM (below_drew1 HB.out)
   clear HO_7
   clear HB
   rename_i HO_7 HB
   have p206 : 0 ≤ (x8_1 : Int) := of_decide_eq_true za
   have q206 : x8_1 < (l0.length : Int) := of_decide_eq_true za
   obtain ⟨ad206, e206, hx206_0, hx206_1⟩ := at_T82 HR0.out x8_1 p206 q206
   have hw206_1 := hx206_1
   have hw206_0 := hx206_0
   cases e206
   replace hx206_0 := zk HB.out hx206_0
   replace hx206_1 := zk HB.out hx206_1
   replace p206 := eq_true p206
   replace q206 := eq_true q206
   have p207 : 0 ≤ (x8_1 : Int) := of_decide_eq_true za
   have q207 : x8_1 < (l0.length : Int) := of_decide_eq_true za
   obtain ⟨ad207, e207, hx207_0, hx207_1⟩ := at_T82 HR0.out x8_1 p207 q207
   have hw207_1 := hx207_1
   have hw207_0 := hx207_0
   obtain rfl : ad206 = ad207 := (by injection e207)
   replace hx207_0 := zk HB.out hx207_0
   replace hx207_1 := zk HB.out hx207_1
   replace p207 := eq_true p207
   replace q207 := eq_true q207
   refine start_ (n := 19) (S := fun w' => w'.cell? (ad206.add ((x8_1).toNat * 2)) = some (.int .i64 ((rd_T82 l0 x8_1).f0)) ∧ w'.cell? ⟨(ad206.add ((x8_1).toNat * 2)).block, (ad206.add ((x8_1).toNat * 2)).off + 1, none⟩ = some (.int .i64 ((rd_T82 l0 x8_1).f1)) ∧ w'.cell? (ad206.add ((x8_1).toNat * 2)) = some (.int .i64 ((rd_T82 l0 x8_1).f0)) ∧ w'.cell? ⟨(ad206.add ((x8_1).toNat * 2)).block, (ad206.add ((x8_1).toNat * 2)).off + 1, none⟩ = some (.int .i64 ((rd_T82 l0 x8_1).f1))) (ds := []) zA32 (by kernel_rfl) rfl rfl ⟨(zk HB.out hw206_0), (zk HB.out hw206_1), (zk HB.out hw207_0), (zk HB.out hw207_1)⟩ (fun hHeld => ?_); refine with_tabW spec_l02Move.tab5 spec_l02Move.bits5 (fun HT_ HW_ => ?_)
   generalize wr.drew = w9 at HO_7 HB hx206_0 hx206_1 hx207_0 hx207_1 hHeld ⊢
   refine zP 0 (some 16) zA33 ?_
   refine zP 1 (some 17) zA34 ?_
   refine zP 2 (some 18) zA35 ?_
   refine zP 3 (some 19) zA36 ?_
   refine zP 4 (some 20) zA37 ?_
   refine zP 6 (some 22) zA38 ?_
   refine zP 8 (some 24) zA39 ?_
   refine zP 9 (some 25) zA40 ?_
   refine zP 10 (some 26) zA41 ?_
   refine zP 11 (some 27) zA42 ?_
   refine zP 13 (some 29) zA43 ?_
   refine zU4 5 (some 21) zA44 hHeld ?_
   refine zP 7 (some 23) zA45 ?_
   refine zU4 12 (some 28) zA46 hHeld ?_
   refine zP 14 (some 30) zA47 ?_
   refine zP 15 (some 31) zA48 ?_
   refine one_ (i := 16) (N := some 32) zA49 rfl rfl (one_of HT_.out (by kernel_rfl)) (by decide) (fun K hK => ?_)
   refine value_ (w1 := ?_) (v := ?_) (by rfl) rfl ?_ ?_
   rotate_left 2
   ·go_simp
    constructor
    ·rfl
    ·rfl
   refine hK.out _ _ ⟨(World.cell?_alloc_lt _ _ _ (World.block_lt_of_cell? _ _ ((zk HB.out hw206_0)))).trans ((zk HB.out hw206_0)), (World.cell?_alloc_lt _ _ _ (World.block_lt_of_cell? _ _ ((zk HB.out hw206_1)))).trans ((zk HB.out hw206_1)), (World.cell?_alloc_lt _ _ _ (World.block_lt_of_cell? _ _ ((zk HB.out hw207_0)))).trans ((zk HB.out hw207_0)), (World.cell?_alloc_lt _ _ _ (World.block_lt_of_cell? _ _ ((zk HB.out hw207_1)))).trans ((zk HB.out hw207_1))⟩ (fun hHeld => ?_)
   clear hK K
   refine norm_ (a' := ?_) ?_ ?_
   rotate_left
   ·show Act.put _ (some 32) _ = _
    simp only [Act.put, xA, xB, xC, i64_w, i32_w]
    rfl
   refine one_ (i := 17) (N := some 33) zA50 rfl rfl (one_of HT_.out (by kernel_rfl)) (by decide) (fun K hK => ?_)
   refine Kd.R_append_step k82 (w0 := w) w.heap.size (by rfl) (.tmp 16) (.tmp 32) 28 82 (.agg #[(.int .i64 0), (.int .i64 0)]) 16 rfl Tryz.underlying28 info82 rfl (by decide) (by omega) u7 x7_1 (⟨wrap64 (((rd_T82 l0 x8_1).f0) + a1), wrap64 (((rd_T82 l0 x8_1).f1) + a2)⟩ : S82) [.int .i64 (wrap64 (((rd_T82 l0 x8_1).f0) + a1)), .int .i64 (wrap64 (((rd_T82 l0 x8_1).f1) + a2))] (fun _ => True) (fun _ => False) rfl rfl ?aP (fun _ hk => hk.elim) ?aF ?aO ?aB ?aS ?aL ?_
   (case aP => exact k82_mkM _ _ _ (⟨wrap64 (((rd_T82 l0 x8_1).f0) + a1), wrap64 (((rd_T82 l0 x8_1).f1) + a2)⟩ : S82))
   (case aB => exact zb)
   (case aF => exact (fun _ _ => trivial))
   (case aO => exact (mR_ HO_7.out))
   (case aS => exact (below_size zb))
   (case aL => have := LMc8.out; omega)
   intro v209 w10 ho hb hg hat
   rw [← Ny208.out] at ho
   have _ := aM (hb)
   have _ := aM (ho)
   clear HB
   clear HO_7
   rename_i HB HO210
   clear ho hb hg hat
   refine hK.out _ _ ⟨(zk HB.out hw206_0), (zk HB.out hw206_1), (zk HB.out hw207_0), (zk HB.out hw207_1)⟩ (fun hHeld => ?_)
   clear hK K
   refine norm_ (a' := ?_) ?_ ?_
   rotate_left
   ·show Act.put _ (some 33) _ = _
    simp only [Act.put, xA, xB, xC, i64_w, i32_w]
    rfl
   refine zP 18 (some 7) zA51 ?_
   refine done_ (done_of HT_.out (by kernel_rfl)) ?_
   try go_wp2
   go_roundg k1
   case measure => have := HK1.out; omega
   case rel => exact ⟨(y208), (wrap64 (x8_1 + 1)), zr, H', ⟨by have := HK1.out; omega⟩, ⟨mR_ HO210.out⟩, ⟨zb⟩⟩
def spec_l02Normal.f (k : Nat) (l0 : List (S82)) : Option ((List (S82))) := (spec_l02Least.f k l0).bind fun bt211 => ((spec_l02Move.f k l0 (wrap64 (-bt211.1)) (wrap64 (-bt211.2))).bind fun t213 => (some t213))
theorem spec_l02Normal.calls (k : Nat) (A0 : Option Addr) (c0 : Nat) (l0 : List (S82)) (r : List (S82)) (w : World) (hr0 : Kd.C k82 w A0 l0.length l0) (hc0 : l0.length ≤ c0) (h : spec_l02Normal.f k l0 = some r) :
  Calls Tryz.prog 58 #[.slice A0 l0.length c0] w fun e w' => ∃ v0_ : Value, e = .returned (v0_) ∧ Kd.R k82 82 w' w.heap.size (fun _ => True) v0_ r ∧ Below w.heap.size w w' := by
 have HR0 := aM hr0
 have HC0 := aM hc0
 clear hr0 hc0
 have HB := aM (Below.refl w.heap.size w)
 have H : ((spec_l02Least.f k l0).bind fun bt211 => ((spec_l02Move.f k l0 (wrap64 (-bt211.1)) (wrap64 (-bt211.2))).bind fun t213 => (some t213))) = some r := h
 clear h
 replace H := Option.bind_eq_some_iff.mp H
 obtain ⟨⟨t211, t212⟩, A20, H⟩ := H
 replace H : ((spec_l02Move.f k l0 (wrap64 (-t211)) (wrap64 (-t212))).bind fun t213 => (some t213)) = some r := H
 have A2 := aM A20
 clear A20
 replace H := Option.bind_eq_some_iff.mp H
 obtain ⟨t213, A30, H⟩ := H
 replace H : (some t213) = some r := H
 have A3 := aM A30
 clear A30
 obtain rfl := Option.some.inj H
 go_enter Tryz.func58, Tryz.ntmps58
 go_wp2_with (first | ((with_reducible refine gate_callee (f := 83) rfl ?_); refine goesL_ (some 7) rfl rfl Tryz.func83 (by kernel_rfl) rfl #[.slice A0 l0.length c0] rfl zm ?_; (with_reducible refine (spec_l02Least.calls k _ _ l0 t211 t212 _ ?side1 ?side2 A2.out).mono ?_); (case side1 => repeat (first | exact HR0.out | (with_reducible refine Kd.C_alloc ?_ _) | (with_reducible refine Kd.C_drewN ?_ _) | (with_reducible refine Kd.C_drew ?_))); (case side2 => exact HC0.out); rintro e w4 ⟨rfl, hb⟩; refine ⟨_, rfl, ?_⟩; have _ := aM (below_step zb hb); clear HB; rename_i HB; (try clear hb); (try clear hb2); (try clear hk); (try clear hi)) | ((with_reducible refine gate_callee (f := 87) rfl ?_); refine goesL_ (some 15) rfl rfl Tryz.func87 (by kernel_rfl) rfl #[.slice A0 l0.length c0, .int .i64 (wrap64 (-t211)), .int .i64 (wrap64 (-t212))] rfl zm ?_; (with_reducible refine (spec_l02Move.calls k _ _ l0 (wrap64 (-t211)) (wrap64 (-t212)) t213 _ ?side1 ?side2 A3.out).mono ?_); (case side1 => repeat (first | exact (Kd.C_below HR0.out HB.out) | (with_reducible refine Kd.C_alloc ?_ _) | (with_reducible refine Kd.C_drewN ?_ _) | (with_reducible refine Kd.C_drew ?_))); (case side2 => exact HC0.out); rintro e w5 ⟨v214, rfl, ho0, hb⟩; refine ⟨_, rfl, ?_⟩; have _ := aM (Kd.R_lower ho0 (below_size zb)); have _ := aM (below_step zb hb); clear HB; rename_i HO215 HB; (try clear hb); (try clear hb2); (try clear hk); (try clear hi); (try clear ho0)))
 go_ret
 exact ⟨_, zw, mR_ HO215.out, zb⟩
end Go.Proofs.YtipafadbhmngnaaGreatDoor.F
end
section
namespace Go.Proofs.YtipafadbhmngnaaGreatDoor.F
open Go.RowKit Go.Proofs.YtipafadbhmngnaaGreatDoorW.PrintWords Go.Proofs.YtipafadbhmngnaaGreatDoorW.PrintLast Go.Proofs.YtipafadbhmngnaaGreatDoorW.PrintMore
attribute [local go_sem] max2_int min2_int max_two min_two max_three min_three max_four min_four
set_option linter.unusedVariables false
set_option linter.unusedSimpArgs false
def spec_l02Insert.l0 : Nat → List (S82) → List (S82) → Bool → Int → Int → Int → Option ((List (S82)))
 | 0, _, _, _, _, _, _ => none
 | k + 1, x0, x5, x6, x7, x217000, x217001 => if x7 < (x0.length : Int) then (if x6 = true then (if 0 ≤ x7 then (if x5.length < 8796093022208 then (spec_l02Insert.l0 k x0 (x5 ++ [(⟨(rd_T82 x0 x7).f0, (rd_T82 x0 x7).f1⟩ : S82)]) x6 (wrap64 (x7 + 1)) x217000 x217001) else (none)) else (none)) else (if 0 ≤ x7 then ((spec_l02Less.f x217000 x217001 ((rd_T82 x0 x7).f0) ((rd_T82 x0 x7).f1)).bind fun t225 => (if t225 = true then (if x5.length < 8796093022208 then ((some (x5 ++ [(⟨x217000, x217001⟩ : S82)] : List (S82))).bind fun y226 => (if y226.length < 8796093022208 then (spec_l02Insert.l0 k x0 (y226 ++ [(⟨(rd_T82 x0 x7).f0, (rd_T82 x0 x7).f1⟩ : S82)]) true (wrap64 (x7 + 1)) x217000 x217001) else (none))) else (none)) else (if x5.length < 8796093022208 then (spec_l02Insert.l0 k x0 (x5 ++ [(⟨(rd_T82 x0 x7).f0, (rd_T82 x0 x7).f1⟩ : S82)]) x6 (wrap64 (x7 + 1)) x217000 x217001) else (none)))) else (none))) else (if x6 = true then (some x5) else (if x5.length < 8796093022208 then (some (x5 ++ [(⟨x217000, x217001⟩ : S82)])) else (none)))
def spec_l02Insert.f (k : Nat) (l0 : List (S82)) (a1_0 : Int) (a1_1 : Int) : Option ((List (S82))) := spec_l02Insert.l0 k l0 (([] : List (S82))) false 0 a1_0 a1_1
def spec_l02Insert.T6 : Bool × List (List Nat × List Nat) := (true, [([], []), ([0], [0]), ([1], [1]), ([2], [2]), ([2], [2]), ([2], [2]), ([4, 5, 2], [2, 4, 5]), ([6, 2], [2, 6]), ([3, 7, 2, 2], [2, 3, 7]), ([2, 8], [2, 8])])
def spec_l02Insert.B6 : List Nat := [0, 1, 3, 7, 7, 7, 55, 119, 255, 511]
theorem spec_l02Insert.tab6 : rtab .any (opsOf Tryz.f106 6) = spec_l02Insert.T6 := by kernel_rfl
theorem spec_l02Insert.bits6 : waitsOk spec_l02Insert.T6.2 spec_l02Insert.B6 = true := by kernel_rfl
end Go.Proofs.YtipafadbhmngnaaGreatDoor.F
end
