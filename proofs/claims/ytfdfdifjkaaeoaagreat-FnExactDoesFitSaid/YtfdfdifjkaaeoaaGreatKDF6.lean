/- The row of FnExactDoesFit, with what it needs: text 7 of 12. -/
import Derived.Test.YtfdfdifjkaaeoaaGreatKDF5
set_option maxHeartbeats 8000000
set_option maxRecDepth 100000
section
namespace Go.Proofs.YtfdfdifjkaaeoaaGreat.F
open Go.RowKit Go.Proofs.YtfdfdifjkaaeoaaGreatW.PrintWords Go.Proofs.YtfdfdifjkaaeoaaGreatW.PrintLast Go.Proofs.YtfdfdifjkaaeoaaGreatW.PrintMore
attribute [local go_sem] max2_int min2_int max_two min_two max_three min_three max_four min_four
set_option linter.unusedVariables false
set_option linter.unusedSimpArgs false
attribute [local go_sem high] eqA58
theorem impl_IsRegion.calls (k : Nat) (A0 : Option Addr) (c0 : Nat) (l0 : List (S58)) (r : Bool) (w : World) (hr0 : Kd.C k58 w A0 l0.length l0) (hc0 : l0.length ≤ c0) (h : impl_IsRegion.f k l0 = some r) :
  Calls Tryz.prog 23 #[.slice A0 l0.length c0] w fun e w' => e = .returned (.bool r) ∧ Below w.heap.size w w' := by
 have hu58 := Tryz.underlying58
 have HR0 := aM hr0
 have HC0 := aM hc0
 clear hr0 hc0
 have HB := aM (Below.refl w.heap.size w)
 have H : ((impl_IsShape.f k l0).bind fun t357 => (if t357 = true then ((impl_corner.f k l0).bind fun bt358 => (if (!(bt358.1 == 0) || (!(bt358.2 == 0))) = true then (some false) else ((impl_reach.f k l0).bind fun bt360 => (if bt360.1 < 20 then (some (decide (bt360.2 < 20))) else (some false))))) else (some false))) = some r := h
 clear h
 replace H := Option.bind_eq_some_iff.mp H
 obtain ⟨t357, A20, H⟩ := H
 replace H : (if t357 = true then ((impl_corner.f k l0).bind fun bt358 => (if (!(bt358.1 == 0) || (!(bt358.2 == 0))) = true then (some false) else ((impl_reach.f k l0).bind fun bt360 => (if bt360.1 < 20 then (some (decide (bt360.2 < 20))) else (some false))))) else (some false)) = some r := H
 have A2 := aM A20
 clear A20
 by_cases c3 : t357 = true
 rotate_left
 ·replace c3 := Bool.eq_false_iff.mpr c3
  subst c3
  have H1 : (some false) = some r := by rw [if_neg (show ¬ (false = true) by decide)] at H; exact H
  clear H
  have H := H1
  clear H1
  obtain rfl := Option.some.inj H
  go_enter Tryz.func23, Tryz.ntmps23
  go_wp2_with (first | ((with_reducible refine gate_callee (f := 39) rfl ?_); refine goesL_ (some 5) rfl rfl Tryz.func39 (by kernel_rfl) rfl #[.slice A0 l0.length c0] rfl zm ?_; (with_reducible refine (impl_IsShape.calls k _ _ l0 false _ ?side1 ?side2 A2.out).mono ?_); (case side1 => repeat (first | exact HR0.out | (with_reducible refine Kd.C_alloc ?_ _) | (with_reducible refine Kd.C_drewN ?_ _) | (with_reducible refine Kd.C_drew ?_))); (case side2 => exact HC0.out); rintro e w20 ⟨rfl, hb⟩; refine ⟨_, rfl, ?_⟩; have n0_ := aM (below_step zb hb); clear HB; have HB := n0_; clear n0_; (try clear hb); (try clear hb2); (try clear hk); (try clear hi)))
  go_ret
  exact ⟨zw, zb⟩
 subst c3
 have H1 : ((impl_corner.f k l0).bind fun bt358 => (if (!(bt358.1 == 0) || (!(bt358.2 == 0))) = true then (some false) else ((impl_reach.f k l0).bind fun bt360 => (if bt360.1 < 20 then (some (decide (bt360.2 < 20))) else (some false))))) = some r := by rw [if_pos rfl] at H; exact H
 clear H
 have H := H1
 clear H1
 replace H := Option.bind_eq_some_iff.mp H
 obtain ⟨⟨t358, t359⟩, A40, H⟩ := H
 replace H : (if (!(t358 == 0) || (!(t359 == 0))) = true then (some false) else ((impl_reach.f k l0).bind fun bt360 => (if bt360.1 < 20 then (some (decide (bt360.2 < 20))) else (some false)))) = some r := H
 have A4 := aM A40
 clear A40
 by_cases c5 : (!(t358 == 0) || (!(t359 == 0))) = true
 ·rw [if_pos c5] at H
  have c5b0 : (!(t358 == 0) || (!(t359 == 0))) = true := c5
  clear c5
  obtain rfl := Option.some.inj H
  go_enter Tryz.func23, Tryz.ntmps23
  go_wp2_with (first | ((with_reducible refine gate_callee (f := 39) rfl ?_); refine goesL_ (some 5) rfl rfl Tryz.func39 (by kernel_rfl) rfl #[.slice A0 l0.length c0] rfl zm ?_; (with_reducible refine (impl_IsShape.calls k _ _ l0 true _ ?side1 ?side2 A2.out).mono ?_); (case side1 => repeat (first | exact HR0.out | (with_reducible refine Kd.C_alloc ?_ _) | (with_reducible refine Kd.C_drewN ?_ _) | (with_reducible refine Kd.C_drew ?_))); (case side2 => exact HC0.out); rintro e w6 ⟨rfl, hb⟩; refine ⟨_, rfl, ?_⟩; have n0_ := aM (below_step zb hb); clear HB; have HB := n0_; clear n0_; (try clear hb); (try clear hb2); (try clear hk); (try clear hi)) | (go_at_call 40; (with_reducible refine (impl_corner.calls k _ _ l0 t358 t359 _ ?side1 ?side2 A4.out).mono ?_); (case side1 => repeat (first | exact (Kd.C_below HR0.out HB.out) | (with_reducible refine Kd.C_alloc ?_ _) | (with_reducible refine Kd.C_drewN ?_ _) | (with_reducible refine Kd.C_drew ?_))); (case side2 => exact HC0.out); rintro e w7 ⟨rfl, hb⟩; have n0_ := aM (below_step zb hb); clear HB; have HB := n0_; clear n0_; (try clear hb); (try clear hb2); (try clear hk); (try clear hi)))
  go_ret
  exact ⟨zw, zb⟩
 rw [if_neg c5] at H
 have c5b0 : (!(t358 == 0) || (!(t359 == 0))) = false := by simpa using c5
 clear c5
 replace H := Option.bind_eq_some_iff.mp H
 obtain ⟨⟨t360, t361⟩, A80, H⟩ := H
 replace H : (if t360 < 20 then (some (decide (t361 < 20))) else (some false)) = some r := H
 have A8 := aM A80
 clear A80
 by_cases c9 : t360 < 20
 ·rw [if_pos c9] at H
  have c9b0 : decide (t360 < 20) = true := decide_eq_true c9
  clear c9
  obtain rfl := Option.some.inj H
  go_enter Tryz.func23, Tryz.ntmps23
  go_wp2_with (first | ((with_reducible refine gate_callee (f := 39) rfl ?_); refine goesL_ (some 5) rfl rfl Tryz.func39 (by kernel_rfl) rfl #[.slice A0 l0.length c0] rfl zm ?_; (with_reducible refine (impl_IsShape.calls k _ _ l0 true _ ?side1 ?side2 A2.out).mono ?_); (case side1 => repeat (first | exact HR0.out | (with_reducible refine Kd.C_alloc ?_ _) | (with_reducible refine Kd.C_drewN ?_ _) | (with_reducible refine Kd.C_drew ?_))); (case side2 => exact HC0.out); rintro e w10 ⟨rfl, hb⟩; refine ⟨_, rfl, ?_⟩; have n0_ := aM (below_step zb hb); clear HB; have HB := n0_; clear n0_; (try clear hb); (try clear hb2); (try clear hk); (try clear hi)) | (go_at_call 40; (with_reducible refine (impl_corner.calls k _ _ l0 t358 t359 _ ?side1 ?side2 A4.out).mono ?_); (case side1 => repeat (first | exact (Kd.C_below HR0.out HB.out) | (with_reducible refine Kd.C_alloc ?_ _) | (with_reducible refine Kd.C_drewN ?_ _) | (with_reducible refine Kd.C_drew ?_))); (case side2 => exact HC0.out); rintro e w11 ⟨rfl, hb⟩; have n0_ := aM (below_step zb hb); clear HB; have HB := n0_; clear n0_; (try clear hb); (try clear hb2); (try clear hk); (try clear hi)) | ((with_reducible refine gate_callee (f := 41) rfl ?_); refine goesL_ (some 14) rfl rfl Tryz.func41 (by kernel_rfl) rfl #[.slice A0 l0.length c0] rfl zm ?_; (with_reducible refine (impl_reach.calls k _ _ l0 t360 t361 _ ?side1 ?side2 A8.out).mono ?_); (case side1 => repeat (first | exact (Kd.C_below HR0.out HB.out) | (with_reducible refine Kd.C_alloc ?_ _) | (with_reducible refine Kd.C_drewN ?_ _) | (with_reducible refine Kd.C_drew ?_))); (case side2 => exact HC0.out); rintro e w12 ⟨rfl, hb⟩; refine ⟨_, rfl, ?_⟩; have n0_ := aM (below_step zb hb); clear HB; have HB := n0_; clear n0_; (try clear hb); (try clear hb2); (try clear hk); (try clear hi)) | ((with_reducible refine gate_dst (N := 3) rfl ?_); refine zx 3 #[.int .i64 0, .int .i64 0] 58 ?_; intro gb362 hg w13 hbox hb; have n0_ := aM (below_step zb hb); have n1_ := aM (hbox); have n2_ := aM ((ze : w.heap.size ≤ gb362)); have n3_ := aM ((ze : w.heap.size ≤ gb362)); clear HB; have HB := n0_; have BK362 := n1_; have GW362 := n2_; have GE362 := n3_; clear n0_ n1_ n2_ n3_ hb hbox hg; have hcz14_0 : w13.cell? ⟨gb362, 0, none⟩ = some (.int .i64 0) := (blk_cell BK362.out 0).trans rfl; have hcz14_1 : w13.cell? ⟨gb362, 1, none⟩ = some (.int .i64 0) := (blk_cell BK362.out 1).trans rfl; have hfz14_0 := blk_frozen BK362.out 0; have hfz14_1 := blk_frozen BK362.out 1))
  go_ret
  exact ⟨zw, zs GE362.out⟩
 rw [if_neg c9] at H
 have c9b0 : decide (t360 < 20) = false := decide_eq_false c9
 clear c9
 obtain rfl := Option.some.inj H
 go_enter Tryz.func23, Tryz.ntmps23
 go_wp2_with (first | ((with_reducible refine gate_callee (f := 39) rfl ?_); refine goesL_ (some 5) rfl rfl Tryz.func39 (by kernel_rfl) rfl #[.slice A0 l0.length c0] rfl zm ?_; (with_reducible refine (impl_IsShape.calls k _ _ l0 true _ ?side1 ?side2 A2.out).mono ?_); (case side1 => repeat (first | exact HR0.out | (with_reducible refine Kd.C_alloc ?_ _) | (with_reducible refine Kd.C_drewN ?_ _) | (with_reducible refine Kd.C_drew ?_))); (case side2 => exact HC0.out); rintro e w15 ⟨rfl, hb⟩; refine ⟨_, rfl, ?_⟩; have n0_ := aM (below_step zb hb); clear HB; have HB := n0_; clear n0_; (try clear hb); (try clear hb2); (try clear hk); (try clear hi)) | (go_at_call 40; (with_reducible refine (impl_corner.calls k _ _ l0 t358 t359 _ ?side1 ?side2 A4.out).mono ?_); (case side1 => repeat (first | exact (Kd.C_below HR0.out HB.out) | (with_reducible refine Kd.C_alloc ?_ _) | (with_reducible refine Kd.C_drewN ?_ _) | (with_reducible refine Kd.C_drew ?_))); (case side2 => exact HC0.out); rintro e w16 ⟨rfl, hb⟩; have n0_ := aM (below_step zb hb); clear HB; have HB := n0_; clear n0_; (try clear hb); (try clear hb2); (try clear hk); (try clear hi)) | ((with_reducible refine gate_callee (f := 41) rfl ?_); refine goesL_ (some 14) rfl rfl Tryz.func41 (by kernel_rfl) rfl #[.slice A0 l0.length c0] rfl zm ?_; (with_reducible refine (impl_reach.calls k _ _ l0 t360 t361 _ ?side1 ?side2 A8.out).mono ?_); (case side1 => repeat (first | exact (Kd.C_below HR0.out HB.out) | (with_reducible refine Kd.C_alloc ?_ _) | (with_reducible refine Kd.C_drewN ?_ _) | (with_reducible refine Kd.C_drew ?_))); (case side2 => exact HC0.out); rintro e w17 ⟨rfl, hb⟩; refine ⟨_, rfl, ?_⟩; have n0_ := aM (below_step zb hb); clear HB; have HB := n0_; clear n0_; (try clear hb); (try clear hb2); (try clear hk); (try clear hi)) | ((with_reducible refine gate_dst (N := 3) rfl ?_); refine zx 3 #[.int .i64 0, .int .i64 0] 58 ?_; intro gb362 hg w18 hbox hb; have n0_ := aM (below_step zb hb); have n1_ := aM (hbox); have n2_ := aM ((ze : w.heap.size ≤ gb362)); have n3_ := aM ((ze : w.heap.size ≤ gb362)); clear HB; have HB := n0_; have BK362 := n1_; have GW362 := n2_; have GE362 := n3_; clear n0_ n1_ n2_ n3_ hb hbox hg; have hcz19_0 : w18.cell? ⟨gb362, 0, none⟩ = some (.int .i64 0) := (blk_cell BK362.out 0).trans rfl; have hcz19_1 : w18.cell? ⟨gb362, 1, none⟩ = some (.int .i64 0) := (blk_cell BK362.out 1).trans rfl; have hfz19_0 := blk_frozen BK362.out 0; have hfz19_1 := blk_frozen BK362.out 1))
 go_ret
 exact ⟨zw, zs GE362.out⟩
def slices_Max_int64_int64.l0 : Nat → List Int → Int → Int → Option (Int)
 | 0, _, _, _ => none
 | k + 1, x0, x3, x4 => if x4 < (x0.length : Int) then (if 0 ≤ x4 then (slices_Max_int64_int64.l0 k x0 (mx x3 (rd x0 x4)) (wrap64 (x4 + 1))) else (none)) else (some x3)
def slices_Max_int64_int64.f (k : Nat) (l0 : List Int) : Option (Int) := if (l0.length : Int) < 1 then (none) else (if 0 < (l0.length : Int) then (slices_Max_int64_int64.l0 k l0 (rd l0 0) 1) else (none))
theorem slices_Max_int64_int64.calls (k : Nat) (A0 : Option Addr) (c0 : Nat) (l0 : List Int) (r : Int) (w : World) (hr0 : Kd.C (Kd.int .i64) w A0 l0.length l0) (hc0 : l0.length ≤ c0) (h : slices_Max_int64_int64.f k l0 = some r) :
  Calls Tryz.prog 59 #[.slice A0 l0.length c0] w fun e w' => e = .returned (.int .i64 r) ∧ Below w.heap.size w w' := by
 have HR0 := aM hr0
 have HC0 := aM hc0
 clear hr0 hc0
 have HB := aM (Below.refl w.heap.size w)
 have H : (if (l0.length : Int) < 1 then (none) else (if 0 < (l0.length : Int) then (slices_Max_int64_int64.l0 k l0 (rd l0 0) 1) else (none))) = some r := h
 clear h
 by_cases c2 : (l0.length : Int) < 1
 ·rw [if_pos c2] at H
  exact absurd H (by simp)
 rw [if_neg c2] at H
 have c2b0 : decide ((l0.length : Int) < 1) = false := decide_eq_false c2
 have c2b1 : decide (l0.length < 1) = false := decide_eq_false (by omega)
 clear c2
 by_cases c3 : 0 < (l0.length : Int)
 rotate_left
 ·rw [if_neg c3] at H
  exact absurd H (by simp)
 rw [if_pos c3] at H
 have c3b0 : decide (0 < (l0.length : Int)) = true := decide_eq_true c3
 have c3b1 : decide (0 < l0.length) = true := decide_eq_true (by omega)
 clear c3
 have H' := aM H
 clear H
 have p363 : 0 ≤ (0 : Int) := (by omega)
 have q363 : 0 < (l0.length : Int) := of_decide_eq_true za
 obtain ⟨ad363, e363, hx363_0⟩ := Kd.at_int HR0.out 0 p363 q363
 cases e363
 have qi363 : (0 < l0.length) = True := eq_true (by omega)
 (try rw [show ((0 : Int)).toNat = 0 from rfl] at hx363_0)
 (try rw [Addr.add_zero'] at hx363_0)
 replace p363 := eq_true p363
 replace q363 := eq_true q363
 go_enter Tryz.func59, Tryz.ntmps59
 go_wp2
 go_loopg [3, 4] k (fun kq v3 v4 w' => ∃ (x3_1 : Int) (x4_1 : Int), v3 = .int .i64 x3_1 ∧ v4 = .int .i64 x4_1 ∧ Aside0 (slices_Max_int64_int64.l0 kq l0 x3_1 x4_1 = some r) ∧ Aside0 (kq ≤ k) ∧ Aside0 (Below w.heap.size w w'))
 case atStart => exact ⟨(rd l0 0), (1), zr, zr, H', ⟨Nat.le_refl _⟩, ⟨zb⟩⟩
 case round =>
  clear H'
  try clear c2
  try clear c2b0
  try clear c2b1
  try clear p2
  try clear c3
  try clear c3b0
  try clear c3b1
  try clear p3
  try clear q3
  try clear hx3
  try clear qi3
  try clear hx363_0
  try clear p363
  try clear q363
  obtain ⟨x3_1, x4_1, rfl, rfl, HA, HK1, HB⟩ := hrel
  cases gk with
  | zero => exact absurd HA.out (by simp [slices_Max_int64_int64.l0])
  | succ k1 =>
   have H := HA.out
   clear HA
   simp only [slices_Max_int64_int64.l0] at H
   by_cases c4 : x4_1 < (l0.length : Int)
   rotate_left
   ·rw [if_neg c4] at H
    have c4b0 : decide (x4_1 < (l0.length : Int)) = false := decide_eq_false c4
    clear c4
    obtain rfl := Option.some.inj H
    go_wp2
    go_ret
    exact ⟨zw, zb⟩
   rw [if_pos c4] at H
   have c4b0 : decide (x4_1 < (l0.length : Int)) = true := decide_eq_true c4
   clear c4
   by_cases c5 : 0 ≤ x4_1
   rotate_left
   ·rw [if_neg c5] at H
    exact absurd H (by simp)
   rw [if_pos c5] at H
   have c5b0 : decide (0 ≤ x4_1) = true := decide_eq_true c5
   clear c5
   obtain ⟨ji6, hji6⟩ : ∃ j_ : Int, (mx x3_1 (rd l0 x4_1)) = j_ := ⟨_, rfl⟩
   replace H : (slices_Max_int64_int64.l0 k1 l0 ji6 (wrap64 (x4_1 + 1))) = some r := by first | (rw [hji6] at H; exact H) | (simp only [hji6] at H ⊢; exact H)
   have hji6_ : (if x3_1 < (rd l0 x4_1) then (rd l0 x4_1) else x3_1) = ji6 := hji6
   have H' := aM H
   clear H
   have p364 : 0 ≤ (x4_1 : Int) := of_decide_eq_true za
   have q364 : x4_1 < (l0.length : Int) := of_decide_eq_true za
   obtain ⟨ad364, e364, hx364_0⟩ := Kd.at_int HR0.out x4_1 p364 q364
   obtain rfl : ad363 = ad364 := (by injection e364)
   replace hx364_0 := zk HB.out hx364_0
   replace p364 := eq_true p364
   replace q364 := eq_true q364
   go_wp2
   go_roundg k1
   case measure => have := HK1.out; omega
   case rel => exact ⟨(ji6), (wrap64 (x4_1 + 1)), (by first | rfl | (simp; done) | (simp only [← hji6] <;> (first | rfl | simp)) | (simp [*]; done)), zr, H', ⟨by have := HK1.out; omega⟩, ⟨zb⟩⟩
def lastIdx : List S58 → S58 → Nat → Option Nat
  | [], _, _ => none
  | a :: r, c, i => match lastIdx r c (i + 1) with
    | some j => some j
    | none => if a.f0 = c.f0 ∧ a.f1 = c.f1 then some i else none
def wfC (c : S58) : Bool := (Lit.int .i64 c.f0).wf && (Lit.int .i64 c.f1).wf
def impl_partsLook.f (l0 : List (S58)) (a1_0 : Int) (a1_1 : Int) : Option (Int × Bool) :=
  if wfC ⟨a1_0, a1_1⟩ = true then some (match lastIdx l0 ⟨a1_0, a1_1⟩ 0 with | some j => ((j : Int), true) | none => (0, false)) else none
theorem lastIdx_snoc (c d : S58) : ∀ (l : List S58) (i : Nat), lastIdx (l ++ [c]) d i = if c.f0 = d.f0 ∧ c.f1 = d.f1 then some (i + l.length) else lastIdx l d i
  | [], i => by simp [lastIdx]
  | a :: r, i => by
    rw [List.cons_append, lastIdx, lastIdx_snoc c d r (i + 1)]
    by_cases h : c.f0 = d.f0 ∧ c.f1 = d.f1
    · simp only [h, and_self, if_true, List.length_cons]; congr 1; omega
    · simp only [h, if_false]; rw [lastIdx]
theorem laidOutP : laidOutB Tryz.prog = true := by kernel_rfl
theorem keyedC : Maps.Keyed Tryz.prog 58 := Maps.Keyed.of_law (deep_law_laid laidOutP (m := 4) (by omega) (of_decide_eq_true (by kernel_rfl)) (by kernel_rfl) (by kernel_rfl))
theorem keyTypeC : Tryz.prog.keyType 58 = true := by kernel_rfl
theorem cellsOfC : Tryz.prog.cellsOf 58 = 2 := by kernel_rfl
theorem cellsOfI : Tryz.prog.cellsOf 2 = 1 := by kernel_rfl
theorem typesSize : ∃ n, Tryz.prog.types.size = n + 1 := ⟨Tryz.prog.types.size - 1, by have : (0 < Tryz.prog.types.size) := of_decide_eq_true (by kernel_rfl); omega⟩
abbrev valC (c : S58) : Value := .agg #[.int .i64 c.f0, .int .i64 c.f1]
theorem keyC (c : S58) (h : wfC c = true) : ∃ kl, keyOf Tryz.prog 58 (valC c) = some kl := by
  unfold wfC at h
  rw [Bool.and_eq_true] at h
  obtain ⟨n, hn⟩ := typesSize
  unfold keyOf
  rw [Tryz.underlying58]
  have hf : (valC c).formed Tryz.prog 58 = true := by
    simp only [Value.formed, Tryz.underlying58, cellsOfC]; rfl
  simp only [keyTypeC, hf, Bool.and_self, if_true, hn]
  refine ⟨_, Option.map_eq_some_iff.2 ⟨[.int .i64 c.f0, .int .i64 c.f1], ?_, rfl⟩⟩
  simp [Program.keyLits, Tryz.underlying58, Tryz.underlying2, cellsOfC, cellsOfI, Value.cells, h.1, h.2]
theorem valC_inj {c d : S58} (h : valC c = valC d) : c.f0 = d.f0 ∧ c.f1 = d.f1 := by
  simpa [valC] using h
def PM (w : World) (b : Nat) (l : List S58) : Prop :=
  ∃ (D : DataW Unit) (n : Nat), w.ownsMap Tryz.prog 58 (plainElem Tryz.prog 3) b n D ∧ n ≤ l.length ∧ Maps.IsMap D ∧
    ∀ (c : S58) (kl : Lit), keyOf Tryz.prog 58 (valC c) = some kl → Maps.has D kl = (lastIdx l c 0).isSome ∧ ∀ j : Nat, lastIdx l c 0 = some j → D.atKey kl (.lit (.int .i64 0)) = .lit (.int .i64 j)
section
variable {w w1 W : World} {b g : Nat} {l : List S58}
theorem pm_kept (h : PM w b l) {row : Option Nat} (hg : w.grownBy w1 row) (hne : some b ≠ row) : PM w1 b l := by
  obtain ⟨D, n, ho, r⟩ := h
  exact ⟨D, n, ho.kept hg hne, r⟩
theorem pm_lt (h : PM w b l) : b < w.heap.size := by
  obtain ⟨D, n, ho, r⟩ := h
  exact ho.lt
theorem pm_step (h : PM w b l) (hb : Below w.heap.size w w1) : PM w1 b l := pm_kept h (grown_of_below hb none) (by simp)
theorem pm_alloc (h : PM w b l) (o : Obj) : PM (w.alloc o) b l := pm_kept h (World.grownBy_alloc w o none) (by simp)
theorem pm_drewN (h : PM w b l) (n : Nat) : PM (w.drewN n) b l := pm_step h (pw_below_drewN (Below.refl _ _) n)
theorem pm_drew (h : PM w b l) : PM w.drew b l := pm_step h (below_drew1 (Below.refl _ _))
theorem pm_obj (h : PM w b l) : ∃ es clock, w.heap[b]? = some (.map es clock) := by
  obtain ⟨D, n, ⟨es, clock, hb, _⟩, r⟩ := h
  exact ⟨es, clock, hb⟩
theorem pm_neB (h : PM w b l) {cs : Array Value} {t : TypeId} {fr : Nat × Nat} (hg : w.heap[g]? = some (.cells cs t fr)) : b ≠ g := by
  obtain ⟨es, clock, hb⟩ := pm_obj h
  rintro rfl
  rw [hb] at hg
  simp at hg
theorem pm_farN (h : PM w b l) (hne : b ≠ g) {j : Nat} (u : Value) : PM (w.setCell ⟨g, j, none⟩ u) b l :=
  pm_kept (row := some g) h ⟨rfl, rfl, rfl, by simp, fun k _ hk => Below.heap_setCell _ _ _ k (fun e => hk (by rw [e]))⟩ (by simpa using hne)
theorem pm_row {α : Type} {d : Kd α} {e base : Nat} {ok : Nat → Prop} {v : Value} {xs : List α} (h : PM w b l) (hr : d.R e w base ok v xs) : some b ≠ v.ownBlock := by
  intro he
  obtain ⟨cells, hc⟩ := Kd.R_typed hr b he.symm
  exact pm_neB h hc rfl
theorem pm_append {α : Type} {d : Kd α} {e base : Nat} {ok : Nat → Prop} {v : Value} {xs : List α} (h : PM w b l) (hr : d.R e w base ok v xs) (hg : w.grownBy w1 v.ownBlock) : PM w1 b l := pm_kept h hg (pm_row h hr)
theorem R_map {α : Type} {d : Kd α} {e base : Nat} {ok : Nat → Prop} {v : Value} {xs : List α} (hr : d.R e w base ok v xs) (h : PM w b l) (hg : w.grownBy w1 (some b)) : d.R e w1 base ok v xs :=
  Kd.R_mono (Kd.R_move (Kd.R_bound hr) (fun k hk => hg.block k hk.2.2.1 (by
    obtain ⟨_, _, _, q, _, cells, hc⟩ := hk
    intro he
    injection he with he
    subst he
    exact pm_neB h hc rfl))) (fun _ hk => hk.1)
end
section
variable {rest : List Oper} {o : Oper} {a : Act} {ops : Array Oper} {Q : Exit → Act → World → Prop} {W : World} {b : Nat} {l : List S58}
theorem gate_map {t : TypeId} {m x v : Operand} (_ho : o.op = .mapUpdate t m x v) (h : wpList Tryz.prog ops Q (o :: rest) a W) : wpList Tryz.prog ops Q (o :: rest) a W := h
theorem pm_make (hgd : o.guard = none) (hop : o.op = .makeMap 82 none) (h : ∀ b w1, Below W.heap.size W w1 → W.heap.size ≤ b → PM w1 b [] → wpList Tryz.prog ops Q rest (a.put o.dst (.map (some b))) w1) : wpList Tryz.prog ops Q (o :: rest) a W := by
  refine Kd.event_run hgd (v := .map (some W.heap.size)) (w1 := W.alloc (.map #[] 0)) ?_ (h _ _ (below_alloc (Below.refl _ _) _) (Nat.le_refl _) ⟨.map [], 0, World.ownsMap_made _ _ _ _, Nat.le_refl _, Maps.isMap_empty, fun c kl _ => ⟨rfl, fun j hj => by simp [lastIdx] at hj⟩⟩)
  simp [execOp, hop, run_makeMap]
theorem pm_put (hgd : o.guard = none) (m x v : Operand) (hop : o.op = .mapUpdate 82 m x v) (hm : a.eval m = .map (some b)) (hM : PM W b l) (hl : l.length ≤ 35184372088832) (c : S58) (hx : a.eval x = valC c) (hv : a.eval v = .int .i64 (l.length : Int)) (hc : wfC c = true)
    (h : ∀ w1, W.grownBy w1 (some b) → PM w1 b (l ++ [c]) → wpList Tryz.prog ops Q rest (a.put o.dst undef) w1) : wpList Tryz.prog ops Q (o :: rest) a W := by
  obtain ⟨D, n, ho, hn, hI, hD⟩ := hM
  obtain ⟨kl, hk⟩ := keyC c hc
  have hw : (Lit.int .i64 (l.length : Int)).wf = true := by
    simp only [Lit.wf, IntKind.min, IntKind.max, IntKind.signed, IntKind.bits, Bool.and_eq_true, decide_eq_true_eq, if_true]; omega
  refine wpList_mapUpdate_own W hgd m x v 82 hop 58 3 keyedC Tryz.underlying82 (plainElem Tryz.prog 3) b n D hm ho (by simp only [maxLen]; omega) _ _ kl hx hv hk _ [] (plainElem_int Tryz.underlying3 hw) ?_
  intro w1 ho1 hg
  refine h w1 hg ⟨_, _, ho1, by simp; omega, hI.put _ _, fun d kd hd => ?_⟩
  rw [lastIdx_snoc]
  by_cases e : c.f0 = d.f0 ∧ c.f1 = d.f1
  · have : valC c = valC d := by simp [valC, e.1, e.2]
    rw [← this, hk] at hd
    injection hd with hd
    subst hd
    simp only [e, and_self, if_true, Nat.zero_add]
    refine ⟨by rw [Maps.has_put_same hI (keyedC.key hk)]; rfl, fun j hj => ?_⟩
    obtain rfl := Option.some.inj hj
    exact Maps.atKey_put_same hI (keyedC.key hk) _ _
  · have hne : kd ≠ kl := fun he => e (valC_inj (keyedC.inj hk (he ▸ hd)))
    simp only [e, if_false]
    rw [Maps.has_put_other hne, Maps.atKey_put_other hne]
    exact hD d kd hd
theorem rd_take {l : List S58} {i : Nat} (h : i < l.length) : l.take i ++ [l.getD i z58] = l.take (i + 1) := by
  rw [List.take_add_one, List.getD_eq_getElem?_getD, List.getElem?_eq_getElem h]; rfl
theorem pm_putAt (hgd : o.guard = none) (m x v : Operand) (hop : o.op = .mapUpdate 82 m x v) (hm : a.eval m = .map (some b)) (i : Int) (hM : PM W b (l.take i.toNat)) (h0 : 0 ≤ i) (h1 : i < (l.length : Int)) (hl : l.length ≤ 35184372088832) (hw : l.all wfC = true)
    (hx : a.eval x = .agg #[.int .i64 (rd_T58 l i).f0, .int .i64 (rd_T58 l i).f1]) (hv : a.eval v = .int .i64 i)
    (h : ∀ w1, W.grownBy w1 (some b) → 0 ≤ wrap64 (i + 1) → PM w1 b (l.take (wrap64 (i + 1)).toNat) → wpList Tryz.prog ops Q rest (a.put o.dst undef) w1) : wpList Tryz.prog ops Q (o :: rest) a W := by
  have hi : i.toNat < l.length := by omega
  have e : wrap64 (i + 1) = i + 1 := by simp only [wrap64]; omega
  have hlen : (l.take i.toNat).length = i.toNat := by rw [List.length_take]; omega
  refine pm_put hgd m x v hop hm hM (by omega) (rd_T58 l i) hx (by rw [hv, hlen]; congr 1; omega) ?_ ?_
  · refine List.all_eq_true.1 hw _ ?_
    unfold rd_T58
    rw [List.getD_eq_getElem?_getD, List.getElem?_eq_getElem hi]
    exact List.getElem_mem hi
  · intro w1 hg hp
    have hp' : PM w1 b (l.take i.toNat ++ [l.getD i.toNat z58]) := hp
    rw [rd_take hi] at hp'
    refine h w1 hg (by omega) ?_
    rw [e, show (i + 1).toNat = i.toNat + 1 by omega]
    exact hp'
theorem pm_all {w : World} {i : Int} (h : PM w b (l.take i.toNat)) (hi : ¬ i < (l.length : Int)) : PM w b l := by
  rwa [List.take_of_length_le (by omega)] at h
theorem pm_look (hgd : o.guard = none) (m x : Operand) (hop : o.op = .lookup 82 m x true) (hm : a.eval m = .map (some b)) (hM : PM W b l) (c0 c1 : Int) (hx : a.eval x = .agg #[.int .i64 c0, .int .i64 c1]) {t : Int} {ok : Bool} (hf : impl_partsLook.f l c0 c1 = some (t, ok))
    (h : ∀ w1, Below W.heap.size W w1 → PM w1 b l → wpList Tryz.prog ops Q rest (a.put o.dst (.tuple #[.int .i64 t, .bool ok])) w1) : wpList Tryz.prog ops Q (o :: rest) a W := by
  have hM' := hM
  obtain ⟨D, n, ho, hn, hI, hD⟩ := hM
  unfold impl_partsLook.f at hf
  by_cases hw : wfC ⟨c0, c1⟩ = true
  · rw [if_pos hw] at hf
    obtain ⟨kl, hk⟩ := keyC ⟨c0, c1⟩ hw
    obtain ⟨h1, h2⟩ := hD ⟨c0, c1⟩ kl hk
    refine wpList_lookup_own_ok_int W hgd m x 82 hop 58 3 .i64 keyedC Tryz.underlying82 Tryz.underlying3 (by kernel_rfl) b n D hm ho _ kl hx hk ?_
    intro q hq _
    cases e : lastIdx l ⟨c0, c1⟩ 0 with
    | some j =>
      rw [e] at hf h1
      have h3 := h2 j e
      rw [h3] at hq
      simp only [Option.some.injEq, Prod.mk.injEq] at hf
      obtain ⟨rfl, rfl⟩ := hf
      obtain rfl : (j : Int) = q := by simpa using hq
      rw [h1]
      exact h W (Below.refl _ _) hM'
    | none =>
      rw [e] at hf h1
      rw [Maps.atKey_of_not_has (by simpa using h1)] at hq
      simp only [Option.some.injEq, Prod.mk.injEq] at hf
      obtain ⟨rfl, rfl⟩ := hf
      obtain rfl : (0 : Int) = q := by simpa using hq
      rw [h1]
      exact h W (Below.refl _ _) hM'
  · rw [if_neg hw] at hf
    exact absurd hf (by simp)
end
def impl_around.f (a0_0 : Int) (a0_1 : Int) : Option ((List (S58))) := some (([(⟨a0_0, wrap64 (a0_1 - 1)⟩ : S58), (⟨wrap64 (a0_0 - 1), a0_1⟩ : S58), (⟨wrap64 (a0_0 + 1), a0_1⟩ : S58), (⟨a0_0, wrap64 (a0_1 + 1)⟩ : S58)] : List (S58)))
theorem impl_around.calls (a0_0 : Int) (a0_1 : Int) (r : List (S58)) (w : World) (h : impl_around.f a0_0 a0_1 = some r) :
  Calls Tryz.prog 43 #[.agg #[.int .i64 a0_0, .int .i64 a0_1]] w fun e w' => ∃ v0_ : Value, e = .returned (v0_) ∧ Kd.R k58 58 w' w.heap.size (fun _ => True) v0_ r ∧ Below w.heap.size w w' := by
 have hu58 := Tryz.underlying58
 have HB := aM (Below.refl w.heap.size w)
 have H : (some (([(⟨a0_0, wrap64 (a0_1 - 1)⟩ : S58), (⟨wrap64 (a0_0 - 1), a0_1⟩ : S58), (⟨wrap64 (a0_0 + 1), a0_1⟩ : S58), (⟨a0_0, wrap64 (a0_1 + 1)⟩ : S58)] : List (S58)))) = some r := h
 clear h
 obtain ⟨y366, hy366⟩ : ∃ y_ : List (S58), y_ = (([(⟨a0_0, wrap64 (a0_1 - 1)⟩ : S58), (⟨wrap64 (a0_0 - 1), a0_1⟩ : S58), (⟨wrap64 (a0_0 + 1), a0_1⟩ : S58), (⟨a0_0, wrap64 (a0_1 + 1)⟩ : S58)] : List (S58))) := ⟨_, rfl⟩
 replace H : (some y366) = some r := zy H hy366
 have Ny366 := aM hy366
 clear hy366
 obtain rfl := Option.some.inj H
 go_enter Tryz.func43, Tryz.ntmps43
 go_wp2_with (first | ((with_reducible refine gate_dst (N := 1) rfl ?_); refine zx 1 #[.int .i64 a0_0, .int .i64 a0_1] 58 ?_; intro gb365 hg w2 hbox hb; have n0_ := aM (below_step zb hb); have n1_ := aM (hbox); have n2_ := aM ((ze : w.heap.size ≤ gb365)); have n3_ := aM ((ze : w.heap.size ≤ gb365)); clear HB; have HB := n0_; have BK365 := n1_; have GW365 := n2_; have GE365 := n3_; clear n0_ n1_ n2_ n3_ hb hbox hg; have hcz3_0 : w2.cell? ⟨gb365, 0, none⟩ = some (.int .i64 a0_0) := (blk_cell BK365.out 0).trans rfl; have hcz3_1 : w2.cell? ⟨gb365, 1, none⟩ = some (.int .i64 a0_1) := (blk_cell BK365.out 1).trans rfl; have hfz3_0 := blk_frozen BK365.out 0; have hfz3_1 := blk_frozen BK365.out 1) | ((with_reducible refine gate_dst (N := 27) rfl ?_); refine Kd.R_lit k58 _ 58 ?hg (N := 27) ?hd (xs := ([(⟨a0_0, wrap64 (a0_1 - 1)⟩ : S58), (⟨wrap64 (a0_0 - 1), a0_1⟩ : S58), (⟨wrap64 (a0_0 + 1), a0_1⟩ : S58), (⟨a0_0, wrap64 (a0_1 + 1)⟩ : S58)] : List (S58))) (inner := [.int .i64 a0_0, .int .i64 (wrap64 (a0_1 - 1)), .int .i64 (wrap64 (a0_0 - 1)), .int .i64 a0_1, .int .i64 (wrap64 (a0_0 + 1)), .int .i64 a0_1, .int .i64 a0_0, .int .i64 (wrap64 (a0_1 + 1))]) (ok := fun _ => True) (okp := fun _ => True) ?hr ?hp (fun _ hk => hk) trivial (Below.refl _ _) (Nat.le_refl _) (by simp) ?_; (case hd => rfl); (case hg => rfl); (case hr => first | (go_simp; done) | (go_simp; rfl)); (case hp => exact (Reps.c2 (show Kd.M k58 _ _ _ (⟨a0_0, wrap64 (a0_1 - 1)⟩ : S58) [.int .i64 a0_0, .int .i64 (wrap64 (a0_1 - 1))] from (k58_mkM _ _ _ (⟨a0_0, wrap64 (a0_1 - 1)⟩ : S58) )) (Reps.c2 (show Kd.M k58 _ _ _ (⟨wrap64 (a0_0 - 1), a0_1⟩ : S58) [.int .i64 (wrap64 (a0_0 - 1)), .int .i64 a0_1] from (k58_mkM _ _ _ (⟨wrap64 (a0_0 - 1), a0_1⟩ : S58) )) (Reps.c2 (show Kd.M k58 _ _ _ (⟨wrap64 (a0_0 + 1), a0_1⟩ : S58) [.int .i64 (wrap64 (a0_0 + 1)), .int .i64 a0_1] from (k58_mkM _ _ _ (⟨wrap64 (a0_0 + 1), a0_1⟩ : S58) )) (Reps.c2 (show Kd.M k58 _ _ _ (⟨a0_0, wrap64 (a0_1 + 1)⟩ : S58) [.int .i64 a0_0, .int .i64 (wrap64 (a0_1 + 1))] from (k58_mkM _ _ _ (⟨a0_0, wrap64 (a0_1 + 1)⟩ : S58) )) (Reps.none _ _)))))); intro v367 w4 ho5 hb hg_ hnew_; clear hg_ hnew_; (first | rw [← Ny366.out] at ho5 | (simp only [Int.reduceToNat] at ho5; rw [← Ny366.out] at ho5)); have n0_ := aM (Kd.R_lower (Kd.R_newB ho5 (g := gb365) (o := .cells #[.int .i64 a0_0, .int .i64 a0_1] 58 (0, 0)) (mB_ BK365.out)) (below_size (zs GE365.out))); have n1_ := aM (blk_below (g := gb365) (o := .cells #[.int .i64 a0_0, .int .i64 a0_1] 58 (0, 0)) (mB_ BK365.out) hb); have n2_ := aM (below_step (zs GE365.out) hb); clear BK365 HB; have HO368 := n0_; have BK365 := n1_; have HB := n2_; clear n0_ n1_ n2_; clear hb ho5))
 go_ret
 exact ⟨_, zw, zd0 HO368.out, zs GE365.out⟩
end Go.Proofs.YtfdfdifjkaaeoaaGreat.F
end
section
namespace Go.Proofs.YtfdfdifjkaaeoaaGreat.F
open Go.RowKit Go.Proofs.YtfdfdifjkaaeoaaGreatW.PrintWords Go.Proofs.YtfdfdifjkaaeoaaGreatW.PrintLast Go.Proofs.YtfdfdifjkaaeoaaGreatW.PrintMore
attribute [local go_sem] max2_int min2_int max_two min_two max_three min_three max_four min_four
set_option linter.unusedVariables false
set_option linter.unusedSimpArgs false
mutual
def impl_parts__impl_around.l0 : Nat → List (S58) → List Int → List (S58) → Int → Int → Option (List Int)
 | 0, _, _, _, _, _ => none
 | k + 1, x0, x6, x20, x21, x22 => if x22 < x21 then (if 0 ≤ x22 then (if x22 < (x20.length : Int) then (if x22 < (x6.length : Int) then (impl_parts__impl_around.l0 k x0 (x6.set (x22 : Int).toNat (-1)) x20 x21 (wrap64 (x22 + 1))) else (none)) else (none)) else (none)) else (impl_parts__impl_around.l1 k x0 x6 (x0.length : Int) 0)
def impl_parts__impl_around.l1 : Nat → List (S58) → List Int → Int → Int → Option (List Int)
 | 0, _, _, _, _ => none
 | k + 1, x0, x6, x35, x36 => if x36 < x35 then (if 0 ≤ x36 then (if x36 < (x6.length : Int) then (if (rd x6 x36) ≥ 0 then (impl_parts__impl_around.l1 k x0 x6 x35 (wrap64 (x36 + 1))) else (impl_parts__impl_around.l2 k x0 (x6.set (x36 : Int).toNat x36) x36 (([x36] : List Int)) 0 x35 x36)) else (none)) else (none)) else (some x6)
def impl_parts__impl_around.l2 : Nat → List (S58) → List Int → Int → List Int → Int → Int → Int → Option (List Int)
 | 0, _, _, _, _, _, _, _ => none
 | k + 1, x0, x6, x9, x10, x11, x35, x36 => if x11 < (x10.length : Int) then (if 0 ≤ x11 then (if 0 ≤ (rd x10 x11) then (if (rd x10 x11) < (x0.length : Int) then ((impl_around.f ((rd_T58 x0 (rd x10 x11)).f0) ((rd_T58 x0 (rd x10 x11)).f1)).bind fun t382 => (impl_parts__impl_around.l3 k x0 x6 x9 x10 x11 x35 x36 t382 (t382.length : Int) 0)) else (none)) else (none)) else (none)) else (impl_parts__impl_around.l1 k x0 x6 x35 (wrap64 (x36 + 1)))
def impl_parts__impl_around.l3 : Nat → List (S58) → List Int → Int → List Int → Int → Int → Int → List (S58) → Int → Int → Option (List Int)
 | 0, _, _, _, _, _, _, _, _, _, _ => none
 | k + 1, x0, x6, x9, x10, x11, x35, x36, x64, x65, x66 => if x66 < x65 then (if 0 ≤ x66 then (if x66 < (x64.length : Int) then ((impl_partsLook.f x0 ((rd_T58 x64 x66).f0) ((rd_T58 x64 x66).f1)).bind fun bt387 => (if bt387.2 = true then (if 0 ≤ bt387.1 then (if bt387.1 < (x6.length : Int) then (if (rd x6 bt387.1) < 0 then (if x10.length < 17592186044416 then (impl_parts__impl_around.l3 k x0 (x6.set (bt387.1 : Int).toNat x9) x9 (x10 ++ [bt387.1]) x11 x35 x36 x64 x65 (wrap64 (x66 + 1))) else (none)) else (impl_parts__impl_around.l3 k x0 x6 x9 x10 x11 x35 x36 x64 x65 (wrap64 (x66 + 1)))) else (none)) else (none)) else (impl_parts__impl_around.l3 k x0 x6 x9 x10 x11 x35 x36 x64 x65 (wrap64 (x66 + 1))))) else (none)) else (none)) else (impl_parts__impl_around.l2 k x0 x6 x9 x10 (wrap64 (x11 + 1)) x35 x36)
end
def impl_parts__impl_around.f (k : Nat) (l0 : List (S58)) : Option (List Int) := if l0.all wfC = true then (if 0 ≤ (l0.length : Int) then (if ((l0.length : Int) : Int).toNat ≤ 35184372088832 then (impl_parts__impl_around.l0 k l0 (List.replicate ((l0.length : Int) : Int).toNat 0) l0 (l0.length : Int) 0) else (none)) else (none)) else none
theorem impl_parts__impl_around.calls (k : Nat) (A0 : Option Addr) (c0 : Nat) (l0 : List (S58))  (r : List Int) (w : World) (hr0 : Kd.C k58 w A0 l0.length l0) (hc0 : l0.length ≤ c0) (h : impl_parts__impl_around.f k l0 = some r) :
  Calls Tryz.prog 60 #[.slice A0 l0.length c0, .func (.func 43) #[] #[]] w fun e w' => ∃ v0_ : Value, e = .returned (v0_) ∧ Kd.R (Kd.int .i64) 2 w' w.heap.size (fun _ => True) v0_ r ∧ Below w.heap.size w w' := by
 have hu58 := Tryz.underlying58
 have HR0 := aM hr0
 have HC0 := aM hc0
 clear hr0 hc0
 have HB := aM (Below.refl w.heap.size w)
 have Hwf : l0.all wfC = true := by
  by_cases hh : l0.all wfC = true
  ·exact hh
  unfold impl_parts__impl_around.f at h; rw [if_neg hh] at h; cases h
 have H : (if 0 ≤ (l0.length : Int) then (if ((l0.length : Int) : Int).toNat ≤ 35184372088832 then (impl_parts__impl_around.l0 k l0 (List.replicate ((l0.length : Int) : Int).toNat 0) l0 (l0.length : Int) 0) else (none)) else (none)) = some r := by unfold impl_parts__impl_around.f at h; rw [if_pos Hwf] at h; exact h
 clear h
 by_cases c3 : 0 ≤ (l0.length : Int)
 rotate_left
 ·rw [if_neg c3] at H
  exact absurd H (by simp)
 rw [if_pos c3] at H
 have c3b0 := eq_true c3
 have c3b1 : decide (0 ≤ (l0.length : Int)) = true := decide_eq_true c3
 clear c3
 by_cases c4 : ((l0.length : Int) : Int).toNat ≤ 35184372088832
 rotate_left
 ·rw [if_neg c4] at H
  exact absurd H (by simp)
 rw [if_pos c4] at H
 have c4b0 := eq_true c4
 have c4b1 : decide (((l0.length : Int) : Int).toNat ≤ 35184372088832) = true := decide_eq_true c4
 have HLN : Aside0 (l0.length ≤ 35184372088832) := ⟨by have := of_decide_eq_true c4b1; omega⟩
 clear c4
 obtain ⟨y369, hy369⟩ : ∃ y_ : List Int, y_ = (List.replicate ((l0.length : Int) : Int).toNat 0) := ⟨_, rfl⟩
 replace H : (impl_parts__impl_around.l0 k l0 y369 l0 (l0.length : Int) 0) = some r := zy H hy369
 have Ny369 := aM hy369
 clear hy369
 have H' := aM H
 clear H
 go_enter Tryz.func60, Tryz.ntmps60
 go_wp2_with (first | ((with_reducible refine gate_dst (N := 16) rfl ?_); refine pm_make rfl rfl ?_; intro bm w40_ hb hlt_ hM_; have HM := aM hM_; have HMB := aM (Nat.le_trans (below_size zb) hlt_); have n1_ := aM (below_step zb hb); clear HB; have HB := n1_; clear n1_ hM_ hb hlt_) | ((with_reducible refine gate_dst (N := 19) rfl ?_); refine Kd.R_make (Kd.int .i64) _ 2 rfl (N := 19) rfl 69 _ _ rfl (l0.length : Int) rfl rfl Tryz.underlying69 (.int .i64 0) 8 info2 rfl (by decide) (by omega) 0 (ok := fun _ => True) (okp := fun _ => True) rfl (fun _ hk => hk) trivial (of_decide_eq_true za) (Nat.le_trans (Nat.mul_le_mul_right _ (of_decide_eq_true za : (l0.length : Int).toNat ≤ 35184372088832)) (by omega)) (Below.refl _ _) (Nat.le_refl _) ?_; intro v370 w5 ho6 hb hg_ hnew_; clear hg_ hnew_; have m0_ := aM (pm_step (by (with_reducible repeat (first | apply pm_alloc | apply pm_drewN | apply pm_drew | refine pm_farN ?_ (by assumption) _)); exact HM.out) hb); clear HM; have HM := m0_; clear m0_; (first | rw [← Ny369.out] at ho6 | (simp only [Int.reduceToNat] at ho6; rw [← Ny369.out] at ho6)); have n0_ := aM (Kd.R_lower ho6 (below_size zb)); have n1_ := aM (below_step zb hb); clear HB; have HO371 := n0_; have HB := n1_; clear n0_ n1_; clear hb ho6))
 go_loopg [22] k (fun kq v22 w' => ∃ (x6_1 : List Int) (x22_1 : Int), v22 = .int .i64 x22_1 ∧ Aside0 (impl_parts__impl_around.l0 kq l0 x6_1 l0 (l0.length : Int) x22_1 = some r) ∧ Aside0 (kq ≤ k) ∧ Aside0 (Kd.R (Kd.int .i64) 2 w' w.heap.size (fun _ => True) v370 x6_1) ∧ Aside0 (Below w.heap.size w w') ∧ Aside0 (0 ≤ x22_1) ∧ Aside0 (PM w' bm (l0.take x22_1.toNat)))
 case atStart => exact ⟨(y369), (0), zr, H', ⟨Nat.le_refl _⟩, ⟨mR_ HO371.out⟩, ⟨zb⟩, ⟨Int.le_refl _⟩, ⟨(by (with_reducible repeat (first | apply pm_alloc | apply pm_drewN | apply pm_drew | refine pm_farN ?_ (by assumption) _)); exact HM.out)⟩⟩
 case round =>
  clear H'
  try clear p2
  try clear c3
  try clear c3b0
  try clear c3b1
  try clear c4
  try clear c4b0
  try clear c4b1
  obtain ⟨x6_1, x22_1, rfl, HA, HK1, HO_6, HB, HI, HM⟩ := hrel
  cases gk with
  | zero => exact absurd HA.out (by simp [impl_parts__impl_around.l0])
  | succ k1 =>
   have H := HA.out
   clear HA
   simp only [impl_parts__impl_around.l0] at H
   by_cases c7 : x22_1 < (l0.length : Int)
   ·rw [if_pos c7] at H
    have c7b0 : decide (x22_1 < (l0.length : Int)) = true := decide_eq_true c7
    clear c7
    by_cases c8 : 0 ≤ x22_1
    rotate_left
    ·rw [if_neg c8] at H
     exact absurd H (by simp)
    rw [if_pos c8] at H
    have c8b0 : decide (0 ≤ x22_1) = true := decide_eq_true c8
    clear c8
    by_cases c9 : x22_1 < (l0.length : Int)
    rotate_left
    ·rw [if_neg c9] at H
     exact absurd H (by simp)
    rw [if_pos c9] at H
    have c9b0 : decide (x22_1 < (l0.length : Int)) = true := decide_eq_true c9
    clear c9
    by_cases c10 : x22_1 < (x6_1.length : Int)
    rotate_left
    ·rw [if_neg c10] at H
     exact absurd H (by simp)
    rw [if_pos c10] at H
    have c10b0 : decide (x22_1 < (x6_1.length : Int)) = true := decide_eq_true c10
    clear c10
    obtain ⟨y374, hy374⟩ : ∃ y_ : List Int, y_ = (x6_1.set (x22_1 : Int).toNat (-1)) := ⟨_, rfl⟩
    replace H : (impl_parts__impl_around.l0 k1 l0 y374 l0 (l0.length : Int) (wrap64 (x22_1 + 1))) = some r := zy H hy374
    have Ny374 := aM hy374
    clear hy374
    have H' := aM H
    clear H
    have p372 : 0 ≤ (x22_1 : Int) := of_decide_eq_true za
    have q372 : x22_1 < (l0.length : Int) := of_decide_eq_true za
    obtain ⟨ad372, e372, hx372_0, hx372_1⟩ := at_T58 HR0.out x22_1 p372 q372
    cases e372
    replace hx372_0 := zk HB.out hx372_0
    replace hx372_1 := zk HB.out hx372_1
    replace p372 := eq_true p372
    replace q372 := eq_true q372
    go_wp2_with (first | ((with_reducible refine gate_dst (N := 8) rfl ?_); refine zx 8 #[.int .i64 0, .int .i64 0] 58 ?_; intro gb373 hg w12 hbox hb; have hne373 : bm ≠ gb373 := (by rw [hg]; exact Nat.ne_of_lt (pm_lt (by (with_reducible repeat (first | apply pm_alloc | apply pm_drewN | apply pm_drew | refine pm_farN ?_ (by assumption) _)); exact HM.out))); have m0_ := aM (pm_step (by (with_reducible repeat (first | apply pm_alloc | apply pm_drewN | apply pm_drew | refine pm_farN ?_ (by assumption) _)); exact HM.out) hb); clear HM; have HM := m0_; clear m0_; have n0_ := aM (Kd.R_below (mR_ HO_6.out) hb); have n1_ := aM (below_step zb hb); have n2_ := aM (hbox); have n3_ := aM ((ze : w.heap.size ≤ gb373)); have n4_ := aM ((ze : w.heap.size ≤ gb373)); clear HO_6 HB; have HO_6 := n0_; have HB := n1_; have BK373 := n2_; have GW373 := n3_; have GE373 := n4_; clear n0_ n1_ n2_ n3_ n4_ hb hbox hg; have hcz13_0 : w12.cell? ⟨gb373, 0, none⟩ = some (.int .i64 0) := (blk_cell BK373.out 0).trans rfl; have hcz13_1 : w12.cell? ⟨gb373, 1, none⟩ = some (.int .i64 0) := (blk_cell BK373.out 1).trans rfl; have hfz13_0 := blk_frozen BK373.out 0; have hfz13_1 := blk_frozen BK373.out 1) | ((with_reducible refine gate_store (t := 58) (p := 8) rfl ?_); refine store_event (t := 58) (p := 8) (v := ?vo_w14) (w1 := ((w12.setCell ⟨gb373, 0, none⟩ (.int .i64 ((rd_T58 l0 x22_1).f0))).setCell ⟨gb373, 1, none⟩ (.int .i64 ((rd_T58 l0 x22_1).f1)))) ?hg ?ho ?hn ?hr ?_; (case ho => rfl); (case hg => rfl); (case hn => rfl); (case hr => first | (go_simp; done) | (go_simp; rfl)); intro w14 hw; have m0_ : Aside0 (PM w14 bm (l0.take x22_1.toNat)) := ⟨(by rw [hw]; exact (by (with_reducible repeat (first | apply pm_alloc | apply pm_drewN | apply pm_drew | refine pm_farN ?_ (by assumption) _)); exact HM.out))⟩; clear HM; have HM := m0_; clear m0_; have n0_ : Aside0 (Kd.R (Kd.int .i64) 2 w14 w.heap.size (fun _ => True) v370 x6_1) := ⟨(by rw [hw]; exact (by (with_reducible repeat (first | apply Kd.R_alloc | apply Kd.R_drewN | apply Kd.R_drew)); exact Kd.R_mono (Kd.R_far (p := ⟨gb373, 1, none⟩) (Kd.R_far (p := ⟨gb373, 0, none⟩) (Kd.R_types HO_6.out BK373.out (by decide)) (fun _ hk => hk.2) (.int .i64 ((rd_T58 l0 x22_1).f0))) (fun _ hk => hk.2) (.int .i64 ((rd_T58 l0 x22_1).f1))) (fun _ hk => trivial)))⟩; have n1_ : Aside0 (w14.heap[gb373]? = some (.cells #[.int .i64 ((rd_T58 l0 x22_1).f0), .int .i64 ((rd_T58 l0 x22_1).f1)] 58 (0, 0))) := ⟨(by rw [hw]; exact (by (with_reducible repeat (first | refine blk_drewN ?_ _ | refine blk_drew ?_ | refine blk_alloc ?_ _)); refine blk_put (cs := #[.int .i64 ((rd_T58 l0 x22_1).f0), .int .i64 0]) ?_ 1 _ rfl; (with_reducible repeat (first | refine blk_drewN ?_ _ | refine blk_drew ?_ | refine blk_alloc ?_ _)); refine blk_put (cs := #[.int .i64 0, .int .i64 0]) ?_ 0 _ rfl; (with_reducible repeat (first | refine blk_drewN ?_ _ | refine blk_drew ?_ | refine blk_alloc ?_ _)); exact BK373.out))⟩; have n2_ : Aside0 (Below w.heap.size w w14) := ⟨(by rw [hw]; exact (zs GE373.out))⟩; clear hw HO_6 BK373 HB; have HO_6 := n0_; have BK373 := n1_; have HB := n2_; clear n0_ n1_ n2_; have hcz15_0 : w14.cell? ⟨gb373, 0, none⟩ = some (.int .i64 ((rd_T58 l0 x22_1).f0)) := (blk_cell BK373.out 0).trans rfl; have hcz15_1 : w14.cell? ⟨gb373, 1, none⟩ = some (.int .i64 ((rd_T58 l0 x22_1).f1)) := (blk_cell BK373.out 1).trans rfl; have hfz15_0 := blk_frozen BK373.out 0; have hfz15_1 := blk_frozen BK373.out 1) | ((with_reducible refine gate_map (t := 82) (m := .tmp 27) (x := .tmp 28) (v := .tmp 29) rfl ?_); refine pm_putAt rfl _ _ _ rfl rfl x22_1 ?hM HI.out ?h1 HLN.out Hwf rfl rfl ?_; (case hM => exact (by (with_reducible repeat (first | apply pm_alloc | apply pm_drewN | apply pm_drew | refine pm_farN ?_ (by assumption) _)); exact HM.out)); (case h1 => exact of_decide_eq_true za); intro w14 hg hi_ m0h_; have n0_ := aM (R_map (mR_ HO_6.out) (by (with_reducible repeat (first | apply pm_alloc | apply pm_drewN | apply pm_drew | refine pm_farN ?_ (by assumption) _)); exact HM.out) hg); have n1_ := aM (blk_grown (g := gb373) (o := .cells #[.int .i64 ((rd_T58 l0 x22_1).f0), .int .i64 ((rd_T58 l0 x22_1).f1)] 58 (0, 0)) (mB_ BK373.out) hg (by simpa using Ne.symm (hne373))); have n2_ := aM (pw_below_grown zb (some bm) (below_size zb) hg (fun _ hk_ => by injection hk_ with hk_; subst hk_; exact HMB.out)); clear HM HO_6 BK373 HB HI; have HM := aM m0h_; have HI := aM hi_; have HO_6 := n0_; have BK373 := n1_; have HB := n2_; clear n0_ n1_ n2_ hg m0h_ hi_; have p11 : 0 ≤ (x22_1 : Int) := of_decide_eq_true za; have q11 : (x22_1 : Int) < ((x6_1.length : Int) : Int) := of_decide_eq_true za; obtain ⟨go11, co11, eo11, gb11, gl11, cl11, HG11⟩ := Kd.R_form HO_6.out (by omega); (first | cases eo11 | (injection eo11 with ea_ en_ ec_; (first | subst ea_ | (injection ea_ with ea_; subst ea_)); subst ec_; clear en_)); have GB11 := aM gb11; have GG11 := aM HG11; clear gb11 gl11 HG11; obtain ⟨hx11_0, hf11_0⟩ := Kd.R_celln 0 HO_6.out (x22_1 : Int) p11 q11; replace p11 := eq_true p11; replace q11 := eq_true q11; obtain ⟨hy16_, hz16_⟩ := Kd.R_celln 0 HO_6.out (x22_1 : Int) (of_decide_eq_true za) (of_decide_eq_true za); have HP16 := Kd.R_putg HO_6.out (x22_1 : Int) (-1)) | ((with_reducible refine gate_store (t := 2) (p := 32) rfl ?_); refine store_event (t := 2) (p := 32) (v := ?vo_w17) (w1 := (w14.setCell ⟨go11, (x22_1 : Int).toNat, none⟩ (.int .i64 (-1)))) ?hg ?ho ?hn ?hr ?_; (case ho => rfl); (case hg => rfl); (case hn => rfl); (case hr => first | (go_simp; done) | (go_simp; rfl)); intro w17 hw; have hg : w14.grownBy w17 (some go11) := (by rw [hw]; exact HP16.2); have m0_ := aM (pm_kept (row := some go11) HM.out hg (pm_row HM.out HO_6.out)); clear HM; have HM := m0_; clear m0_; have hp_ : Kd.R (Kd.int .i64) 2 w17 w.heap.size (fun _ => True) (.slice (some ⟨go11, 0, none⟩) x6_1.length co11) y374 := (by rw [hw, Ny374.out]; exact HP16.1); clear HP16; have n0_ := aM (hp_); have n1_ := aM (blk_grown (g := gb373) (o := .cells #[.int .i64 ((rd_T58 l0 x22_1).f0), .int .i64 ((rd_T58 l0 x22_1).f1)] 58 (0, 0)) (mB_ BK373.out) hg (Kd.R_ne HO_6.out BK373.out (by decide))); have n2_ := aM ((by rw [hw]; exact below_set (HB.out) GB11.out : Below w.heap.size w w17)); clear HO_6 BK373 HB; have HO_6 := n0_; have BK373 := n1_; have HB := n2_; clear n0_ n1_ n2_; clear hg hw hp_))
    go_roundg k1
    case measure => have := HK1.out; omega
    case rel => exact ⟨(y374), (wrap64 (x22_1 + 1)), zr, H', ⟨by have := HK1.out; omega⟩, ⟨mR_ HO_6.out⟩, ⟨zs GE373.out⟩, ⟨HI.out⟩, ⟨(by (with_reducible repeat (first | apply pm_alloc | apply pm_drewN | apply pm_drew | refine pm_farN ?_ (by assumption) _)); exact HM.out)⟩⟩
   rw [if_neg c7] at H
   have c7b0 : decide (x22_1 < (l0.length : Int)) = false := decide_eq_false c7
   replace HM : Aside0 (PM _ bm l0) := ⟨pm_all HM.out (of_decide_eq_false c7b0)⟩
   clear c7
   have H' := aM H
   clear H
   go_wp2
   go_loopg [36] k1 (fun kq v36 w' => ∃ (x6_2 : List Int) (x36_2 : Int), v36 = .int .i64 x36_2 ∧ Aside0 (impl_parts__impl_around.l1 kq l0 x6_2 (l0.length : Int) x36_2 = some r) ∧ Aside0 (kq ≤ k1) ∧ Aside0 (Kd.R (Kd.int .i64) 2 w' w.heap.size (fun _ => True) v370 x6_2) ∧ Aside0 (Below w.heap.size w w') ∧ Aside0 (PM w' bm l0))
   case atStart => exact ⟨(x6_1), (0), zr, H', ⟨Nat.le_refl _⟩, ⟨mR_ HO_6.out⟩, ⟨zb⟩, ⟨(by (with_reducible repeat (first | apply pm_alloc | apply pm_drewN | apply pm_drew | refine pm_farN ?_ (by assumption) _)); exact HM.out)⟩⟩
   case round =>
    clear H'
    try clear c1
    try clear p1
    try clear q1
    try clear hx1
    try clear p2
    try clear c3
    try clear c3b0
    try clear c3b1
    try clear p3
    try clear q3
    try clear hx3
    try clear c4
    try clear c4b0
    try clear c4b1
    try clear p6
    try clear c7
    try clear c7b0
    try clear c8
    try clear c8b0
    try clear c9
    try clear c9b0
    try clear c10
    try clear c10b0
    try clear p11
    try clear q11
    try clear hx11
    try clear hf11
    try clear hcz13_0
    try clear hcz13_1
    try clear hcz15_0
    try clear hcz15_1
    try clear hfz13_0
    try clear hfz13_1
    try clear hfz15_0
    try clear hfz15_1
    try clear hx11_0
    try clear hx372_0
    try clear hx372_1
    try clear p11
    try clear p2
    try clear p372
    try clear q11
    try clear q372
    obtain ⟨x6_2, x36_2, rfl, HA, HK2, HO_6, HB, HM⟩ := hrel
    cases gk with
    | zero => exact absurd HA.out (by simp [impl_parts__impl_around.l1])
    | succ k2 =>
     have H := HA.out
     clear HA
     simp only [impl_parts__impl_around.l1] at H
     by_cases c18 : x36_2 < (l0.length : Int)
     rotate_left
     ·rw [if_neg c18] at H
      have c18b0 : decide (x36_2 < (l0.length : Int)) = false := decide_eq_false c18
      clear c18
      obtain rfl := Option.some.inj H
      go_wp2
      go_ret
      exact ⟨_, zw, mR_ HO_6.out, zb⟩
     rw [if_pos c18] at H
     have c18b0 : decide (x36_2 < (l0.length : Int)) = true := decide_eq_true c18
     clear c18
     by_cases c19 : 0 ≤ x36_2
     rotate_left
     ·rw [if_neg c19] at H
      exact absurd H (by simp)
     rw [if_pos c19] at H
     have c19b0 : decide (0 ≤ x36_2) = true := decide_eq_true c19
     clear c19
     by_cases c20 : x36_2 < (x6_2.length : Int)
     rotate_left
     ·rw [if_neg c20] at H
      exact absurd H (by simp)
     rw [if_pos c20] at H
     have c20b0 : decide (x36_2 < (x6_2.length : Int)) = true := decide_eq_true c20
     clear c20
     by_cases c21 : (rd x6_2 x36_2) ≥ 0
     ·rw [if_pos c21] at H
      have c21b0 : decide (0 ≤ (rd x6_2 x36_2)) = true := decide_eq_true c21
      clear c21
      have H' := aM H
      clear H
      obtain ⟨Ao22, co22, eo22⟩ := Kd.R_slice HO_6.out
      subst eo22
      have p375 : 0 ≤ (x36_2 : Int) := of_decide_eq_true za
      have q375 : x36_2 < (x6_2.length : Int) := of_decide_eq_true za
      obtain ⟨ad375, e375, hx375_0⟩ := Kd.at_int (Kd.R_reads' HO_6.out).2.2 x36_2 p375 q375
      cases e375
      replace p375 := eq_true p375
      replace q375 := eq_true q375
      go_wp2
      go_roundg k2
      case measure => have := HK1.out; have := HK2.out; omega
      case rel => exact ⟨(x6_2), (wrap64 (x36_2 + 1)), zr, H', ⟨by have := HK1.out; have := HK2.out; omega⟩, ⟨mR_ HO_6.out⟩, ⟨zb⟩, ⟨(by (with_reducible repeat (first | apply pm_alloc | apply pm_drewN | apply pm_drew | refine pm_farN ?_ (by assumption) _)); exact HM.out)⟩⟩
     rw [if_neg c21] at H
     have c21b0 : decide (0 ≤ (rd x6_2 x36_2)) = false := decide_eq_false c21
     clear c21
     obtain ⟨y376, hy376⟩ : ∃ y_ : List Int, y_ = (x6_2.set (x36_2 : Int).toNat x36_2) := ⟨_, rfl⟩
     replace H : (impl_parts__impl_around.l2 k2 l0 y376 x36_2 (([x36_2] : List Int)) 0 (l0.length : Int) x36_2) = some r := zy H hy376
     have Ny376 := aM hy376
     clear hy376
     obtain ⟨y377, hy377⟩ : ∃ y_ : List Int, y_ = (([x36_2] : List Int)) := ⟨_, rfl⟩
     replace H : (impl_parts__impl_around.l2 k2 l0 y376 x36_2 y377 0 (l0.length : Int) x36_2) = some r := zy H hy377
     have Ny377 := aM hy377
     clear hy377
     have H' := aM H
     clear H
     obtain ⟨Ao24, co24, eo24⟩ := Kd.R_slice HO_6.out
     subst eo24
     have p375 : 0 ≤ (x36_2 : Int) := of_decide_eq_true za
     have q375 : x36_2 < (x6_2.length : Int) := of_decide_eq_true za
     obtain ⟨ad375, e375, hx375_0⟩ := Kd.at_int (Kd.R_reads' HO_6.out).2.2 x36_2 p375 q375
     cases e375
     replace p375 := eq_true p375
     replace q375 := eq_true q375
     have p23 : 0 ≤ (x36_2 : Int) := of_decide_eq_true za
     have q23 : (x36_2 : Int) < ((x6_2.length : Int) : Int) := of_decide_eq_true za
     obtain ⟨go23, co23, eo23, gb23, gl23, cl23, HG23⟩ := Kd.R_form HO_6.out (by omega)
     (first | cases eo23 | (injection eo23 with ea_ en_ ec_; (first | subst ea_ | (injection ea_ with ea_; subst ea_)); subst ec_; clear en_))
     have GB23 := aM gb23
     have GG23 := aM HG23
     clear gb23 gl23 HG23
     (first | simp only [add_plain] at hx375_0 | skip)
     obtain ⟨hx23_0, hf23_0⟩ := Kd.R_celln 0 HO_6.out (x36_2 : Int) p23 q23
     replace p23 := eq_true p23
     replace q23 := eq_true q23
     have HP25 := Kd.R_putg HO_6.out (x36_2 : Int) x36_2
     go_wp2_with (first | ((with_reducible refine gate_store (t := 2) (p := 47) rfl ?_); refine store_event (t := 2) (p := 47) (v := ?vo_w26) (w1 := (wr.setCell ⟨go23, (x36_2 : Int).toNat, none⟩ (.int .i64 x36_2))) ?hg ?ho ?hn ?hr ?_; (case ho => rfl); (case hg => rfl); (case hn => rfl); (case hr => first | (go_simp; done) | (go_simp; rfl)); intro w26 hw; have hg : wr.grownBy w26 (some go23) := (by rw [hw]; exact HP25.2); have m0_ := aM (pm_kept (row := some go23) HM.out hg (pm_row HM.out HO_6.out)); clear HM; have HM := m0_; clear m0_; have hp_ : Kd.R (Kd.int .i64) 2 w26 w.heap.size (fun _ => True) (.slice (some ⟨go23, 0, none⟩) x6_2.length co24) y376 := (by rw [hw, Ny376.out]; exact HP25.1); clear HP25; have n0_ := aM (hp_); have n1_ := aM ((by rw [hw]; exact below_set (HB.out) GB23.out : Below w.heap.size w w26)); clear HO_6 HB; have HO_6 := n0_; have HB := n1_; clear n0_ n1_; clear hg hw hp_) | ((with_reducible refine gate_dst (N := 49) rfl ?_); refine Kd.R_lit (Kd.int .i64) _ 3 ?hg (N := 49) ?hd (xs := ([x36_2] : List Int)) (inner := [.int .i64 x36_2]) (ok := fun _ => True) (okp := fun _ => True) ?hr ?hp (fun _ hk => hk) trivial (Below.refl _ _) (Nat.le_refl _) (by simp) ?_; (case hd => rfl); (case hg => rfl); (case hr => first | (go_simp; done) | (go_simp; rfl)); (case hp => exact (Reps.one (show Kd.M (Kd.int .i64) _ _ _ x36_2 [.int .i64 x36_2] from rfl) (Reps.none _ _))); intro v378 w27 ho28 hb hg_ hnew_; clear hg_ hnew_; have m0_ := aM (pm_step (by (with_reducible repeat (first | apply pm_alloc | apply pm_drewN | apply pm_drew | refine pm_farN ?_ (by assumption) _)); exact HM.out) hb); clear HM; have HM := m0_; clear m0_; (first | rw [← Ny377.out] at ho28 | (simp only [Int.reduceToNat] at ho28; rw [← Ny377.out] at ho28)); have n0_ := aM (Kd.R_below (mR_ HO_6.out) hb); have n1_ := aM (Kd.R_lower ho28 (below_size zb)); have n2_ := aM (below_step zb hb); clear HO_6 HB; have HO_6 := n0_; have HO379 := n1_; have HB := n2_; clear n0_ n1_ n2_; clear hb ho28))
     go_loopg [10, 11] k2 (fun kq v10 v11 w' => ∃ (x6_3 : List Int) (x10_3 : List Int) (x11_3 : Int), v11 = .int .i64 x11_3 ∧ Aside0 (impl_parts__impl_around.l2 kq l0 x6_3 x36_2 x10_3 x11_3 (l0.length : Int) x36_2 = some r) ∧ Aside0 (kq ≤ k2) ∧ Aside0 (Kd.R (Kd.int .i64) 2 w' w.heap.size (fun _ => True) (.slice (some ⟨go23, 0, none⟩) x6_2.length co24) x6_3) ∧ Aside0 (Kd.R (Kd.int .i64) 3 w' w.heap.size (fun _ => True) v10 x10_3) ∧ Aside0 (Below w.heap.size w w') ∧ Aside0 (PM w' bm l0))
     case atStart => exact ⟨(y376), (y377), (0), zr, H', ⟨Nat.le_refl _⟩, ⟨mR_ HO_6.out⟩, ⟨mR_ HO379.out⟩, ⟨zb⟩, ⟨(by (with_reducible repeat (first | apply pm_alloc | apply pm_drewN | apply pm_drew | refine pm_farN ?_ (by assumption) _)); exact HM.out)⟩⟩
     case round =>
      clear H'
      try clear c1
      try clear p1
      try clear q1
      try clear hx1
      try clear c2
      try clear p2
      try clear q2
      try clear hx2
      try clear hf2
      try clear c3
      try clear c3b0
      try clear c3b1
      try clear p3
      try clear q3
      try clear hx3
      try clear c4
      try clear c4b0
      try clear c4b1
      try clear p6
      try clear c7
      try clear c7b0
      try clear c8
      try clear c8b0
      try clear c9
      try clear c9b0
      try clear c10
      try clear c10b0
      try clear p11
      try clear q11
      try clear hx11
      try clear hf11
      try clear c18
      try clear c18b0
      try clear c19
      try clear c19b0
      try clear c20
      try clear c20b0
      try clear c21
      try clear c21b0
      try clear p23
      try clear q23
      try clear hx23
      try clear hf23
      try clear hcz13_0
      try clear hcz13_1
      try clear hcz15_0
      try clear hcz15_1
      try clear hfz13_0
      try clear hfz13_1
      try clear hfz15_0
      try clear hfz15_1
      try clear hx11_0
      try clear hx23_0
      try clear hx372_0
      try clear hx372_1
      try clear hx375_0
      try clear p1
      try clear p11
      try clear p2
      try clear p23
      try clear p3
      try clear p372
      try clear p375
      try clear p6
      try clear q1
      try clear q11
      try clear q23
      try clear q3
      try clear q372
      try clear q375
      obtain ⟨x6_3, x10_3, x11_3, rfl, HA, HK3, HO_6, HO_10, HB, HM⟩ := hrel
      have hl6_3 := (Kd.R_reads' HO_6.out).1
      rw [hl6_3] at HO_6
      (try simp only [hl6_3])
      (try simp only [hl6_3] at HO_10)
      cases gk with
      | zero => exact absurd HA.out (by simp [impl_parts__impl_around.l2])
      | succ k3 =>
       have H := HA.out
       clear HA
       simp only [impl_parts__impl_around.l2] at H
       by_cases c29 : x11_3 < (x10_3.length : Int)
       rotate_left
       ·rw [if_neg c29] at H
        have c29b0 : decide (x11_3 < (x10_3.length : Int)) = false := decide_eq_false c29
        clear c29
        have H' := aM H
        clear H
        obtain ⟨Ao59, co59, eo59⟩ := Kd.R_slice HO_10.out
        subst eo59
        go_wp2
        (try simp only [← hl6_3])
        go_roundg k3
        case measure => have := HK1.out; have := HK2.out; have := HK3.out; omega
        case rel => exact ⟨(x6_3), (wrap64 (x36_2 + 1)), zr, H', ⟨by have := HK1.out; have := HK2.out; have := HK3.out; omega⟩, ⟨by (try simp only [hl6_3]); (with_reducible repeat (first | apply Kd.R_alloc | apply Kd.R_drewN | apply Kd.R_drew)); exact HO_6.out⟩, ⟨zb⟩, ⟨(by (with_reducible repeat (first | apply pm_alloc | apply pm_drewN | apply pm_drew | refine pm_farN ?_ (by assumption) _)); exact HM.out)⟩⟩
       rw [if_pos c29] at H
       have c29b0 : decide (x11_3 < (x10_3.length : Int)) = true := decide_eq_true c29
       clear c29
       by_cases c30 : 0 ≤ x11_3
       rotate_left
       ·rw [if_neg c30] at H
        exact absurd H (by simp)
       rw [if_pos c30] at H
       have c30b0 : decide (0 ≤ x11_3) = true := decide_eq_true c30
       clear c30
       by_cases c31 : 0 ≤ (rd x10_3 x11_3)
       rotate_left
       ·rw [if_neg c31] at H
        exact absurd H (by simp)
       rw [if_pos c31] at H
       have c31b0 : decide (0 ≤ (rd x10_3 x11_3)) = true := decide_eq_true c31
       clear c31
       by_cases c32 : (rd x10_3 x11_3) < (l0.length : Int)
       rotate_left
       ·rw [if_neg c32] at H
        exact absurd H (by simp)
       rw [if_pos c32] at H
       have c32b0 : decide ((rd x10_3 x11_3) < (l0.length : Int)) = true := decide_eq_true c32
       clear c32
       replace H := Option.bind_eq_some_iff.mp H
       obtain ⟨t382, A330, H⟩ := H
       replace H : (impl_parts__impl_around.l3 k3 l0 x6_3 x36_2 x10_3 x11_3 (l0.length : Int) x36_2 t382 (t382.length : Int) 0) = some r := H
       have A33 := aM A330
       clear A330
       have H' := aM H
       clear H
       obtain ⟨Ao34, co34, eo34⟩ := Kd.R_slice HO_10.out
       subst eo34
       have p380 : 0 ≤ (x11_3 : Int) := of_decide_eq_true za
       have q380 : x11_3 < (x10_3.length : Int) := of_decide_eq_true za
       obtain ⟨ad380, e380, hx380_0⟩ := Kd.at_int (Kd.R_reads' HO_10.out).2.2 x11_3 p380 q380
       cases e380
       replace p380 := eq_true p380
       replace q380 := eq_true q380
       have p381 : 0 ≤ ((rd x10_3 x11_3) : Int) := of_decide_eq_true za
       have q381 : (rd x10_3 x11_3) < (l0.length : Int) := of_decide_eq_true za
       obtain ⟨ad381, e381, hx381_0, hx381_1⟩ := at_T58 HR0.out (rd x10_3 x11_3) p381 q381
       cases e381
       replace hx381_0 := zk HB.out hx381_0
       replace hx381_1 := zk HB.out hx381_1
       replace p381 := eq_true p381
       replace q381 := eq_true q381
       go_wp2_with (first | (go_at_call 43; (with_reducible refine (impl_around.calls ((rd_T58 l0 (rd x10_3 x11_3)).f0) ((rd_T58 l0 (rd x10_3 x11_3)).f1) t382 _ A33.out).mono ?_); rintro e w35 ⟨v383, rfl, ho0, hb⟩; have m0_ := aM (pm_step (by (with_reducible repeat (first | apply pm_alloc | apply pm_drewN | apply pm_drew | refine pm_farN ?_ (by assumption) _)); exact HM.out) hb); clear HM; have HM := m0_; clear m0_; have n0_ := aM (Kd.R_below (mR_ HO_6.out) hb); have n1_ := aM (Kd.R_below (mR_ HO_10.out) hb); have n2_ := aM (Kd.R_lower ho0 (below_size zb)); have n3_ := aM (below_step zb hb); clear HO_6 HO_10 HB; have HO_6 := n0_; have HO_10 := n1_; have HO384 := n2_; have HB := n3_; clear n0_ n1_ n2_ n3_; (try clear hb); (try clear hb2); (try clear hk); (try clear hi); (try clear ho0); obtain ⟨Ao36, co36, eo36⟩ := Kd.R_slice HO384.out; subst eo36))
       go_loopg [10, 66] k3 (fun kq v10 v66 w' => ∃ (x6_4 : List Int) (x10_4 : List Int) (x66_4 : Int), v66 = .int .i64 x66_4 ∧ Aside0 (impl_parts__impl_around.l3 kq l0 x6_4 x36_2 x10_4 x11_3 (l0.length : Int) x36_2 t382 (t382.length : Int) x66_4 = some r) ∧ Aside0 (kq ≤ k3) ∧ Aside0 (Kd.R (Kd.int .i64) 2 w' w.heap.size (fun _ => True) (.slice (some ⟨go23, 0, none⟩) x6_3.length co24) x6_4) ∧ Aside0 (Kd.R (Kd.int .i64) 3 w' w.heap.size (fun _ => True) v10 x10_4) ∧ Aside0 (Kd.R k58 58 w' w.heap.size (fun _ => True) (.slice Ao36 t382.length co36) t382) ∧ Aside0 (Below w.heap.size w w') ∧ Aside0 (PM w' bm l0))
       case atStart => exact ⟨(x6_3), (x10_3), (0), zr, H', ⟨Nat.le_refl _⟩, ⟨by (try simp only [hl6_3]); (with_reducible repeat (first | apply Kd.R_alloc | apply Kd.R_drewN | apply Kd.R_drew)); exact HO_6.out⟩, ⟨by (try simp only [hl6_3]); (with_reducible repeat (first | apply Kd.R_alloc | apply Kd.R_drewN | apply Kd.R_drew)); exact HO_10.out⟩, ⟨by (try simp only [hl6_3]); (with_reducible repeat (first | apply Kd.R_alloc | apply Kd.R_drewN | apply Kd.R_drew)); exact HO384.out⟩, ⟨zb⟩, ⟨(by (with_reducible repeat (first | apply pm_alloc | apply pm_drewN | apply pm_drew | refine pm_farN ?_ (by assumption) _)); exact HM.out)⟩⟩
       case round =>
        clear H'
        try clear c1
        try clear p1
        try clear q1
        try clear hx1
        try clear c2
        try clear p2
        try clear q2
        try clear hx2
        try clear hf2
        try clear c3
        try clear c3b0
        try clear c3b1
        try clear p3
        try clear q3
        try clear hx3
        try clear c4
        try clear c4b0
        try clear c4b1
        try clear p6
        try clear c7
        try clear c7b0
        try clear c8
        try clear c8b0
        try clear c9
        try clear c9b0
        try clear c10
        try clear c10b0
        try clear p11
        try clear q11
        try clear hx11
        try clear hf11
        try clear c18
        try clear c18b0
        try clear c19
        try clear c19b0
        try clear c20
        try clear c20b0
        try clear c21
        try clear c21b0
        try clear p23
        try clear q23
        try clear hx23
        try clear hf23
        try clear c29
        try clear c29b0
        try clear c30
        try clear c30b0
        try clear c31
        try clear c31b0
        try clear c32
        try clear c32b0
        try clear hcz13_0
        try clear hcz13_1
        try clear hcz15_0
        try clear hcz15_1
        try clear hfz13_0
        try clear hfz13_1
        try clear hfz15_0
        try clear hfz15_1
        try clear hx11_0
        try clear hx23_0
        try clear hx372_0
        try clear hx372_1
        try clear hx375_0
        try clear hx380_0
        try clear hx381_0
        try clear hx381_1
        try clear p1
        try clear p11
        try clear p2
        try clear p23
        try clear p3
        try clear p372
        try clear p375
        try clear p380
        try clear p381
        try clear p6
        try clear q1
        try clear q11
        try clear q2
        try clear q23
        try clear q3
        try clear q372
        try clear q375
        try clear q380
        try clear q381
        obtain ⟨x6_4, x10_4, x66_4, rfl, HA, HK4, HO_6, HO_10, HO_64, HB, HM⟩ := hrel
        have hl6_4 := (Kd.R_reads' HO_6.out).1
        rw [hl6_4] at HO_6
        (try simp only [hl6_4])
        (try simp only [hl6_4] at HO_10)
        (try simp only [hl6_4] at HO_64)
        cases gk with
        | zero => exact absurd HA.out (by simp [impl_parts__impl_around.l3])
        | succ k4 =>
         have H := HA.out
         clear HA
         simp only [impl_parts__impl_around.l3] at H
         by_cases c37 : x66_4 < (t382.length : Int)
         rotate_left
         ·rw [if_neg c37] at H
          have c37b0 : decide (x66_4 < (t382.length : Int)) = false := decide_eq_false c37
          clear c37
          have H' := aM H
          clear H
          go_wp2
          (try simp only [← hl6_3, ← hl6_4])
          go_roundg k4
          case measure => have := HK1.out; have := HK2.out; have := HK3.out; have := HK4.out; omega
          case rel => exact ⟨(x6_4), (x10_4), (wrap64 (x11_3 + 1)), zr, H', ⟨by have := HK1.out; have := HK2.out; have := HK3.out; have := HK4.out; omega⟩, ⟨by (try simp only [hl6_3]); (try simp only [hl6_4]); (with_reducible repeat (first | apply Kd.R_alloc | apply Kd.R_drewN | apply Kd.R_drew)); exact HO_6.out⟩, ⟨by (try simp only [hl6_3]); (try simp only [hl6_4]); (with_reducible repeat (first | apply Kd.R_alloc | apply Kd.R_drewN | apply Kd.R_drew)); exact HO_10.out⟩, ⟨zb⟩, ⟨(by (with_reducible repeat (first | apply pm_alloc | apply pm_drewN | apply pm_drew | refine pm_farN ?_ (by assumption) _)); exact HM.out)⟩⟩
         rw [if_pos c37] at H
         have c37b0 : decide (x66_4 < (t382.length : Int)) = true := decide_eq_true c37
         clear c37
         by_cases c38 : 0 ≤ x66_4
         rotate_left
         ·rw [if_neg c38] at H
          exact absurd H (by simp)
         rw [if_pos c38] at H
         have c38b0 : decide (0 ≤ x66_4) = true := decide_eq_true c38
         clear c38
         by_cases c39 : x66_4 < (t382.length : Int)
         rotate_left
         ·rw [if_neg c39] at H
          exact absurd H (by simp)
         rw [if_pos c39] at H
         have c39b0 : decide (x66_4 < (t382.length : Int)) = true := decide_eq_true c39
         clear c39
         replace H := Option.bind_eq_some_iff.mp H
         obtain ⟨⟨t387, t388⟩, A400, H⟩ := H
         replace H : (if t388 = true then (if 0 ≤ t387 then (if t387 < (x6_4.length : Int) then (if (rd x6_4 t387) < 0 then (if x10_4.length < 17592186044416 then (impl_parts__impl_around.l3 k4 l0 (x6_4.set (t387 : Int).toNat x36_2) x36_2 (x10_4 ++ [t387]) x11_3 (l0.length : Int) x36_2 t382 (t382.length : Int) (wrap64 (x66_4 + 1))) else (none)) else (impl_parts__impl_around.l3 k4 l0 x6_4 x36_2 x10_4 x11_3 (l0.length : Int) x36_2 t382 (t382.length : Int) (wrap64 (x66_4 + 1)))) else (none)) else (none)) else (impl_parts__impl_around.l3 k4 l0 x6_4 x36_2 x10_4 x11_3 (l0.length : Int) x36_2 t382 (t382.length : Int) (wrap64 (x66_4 + 1)))) = some r := H
         have A40 := aM A400
         clear A400
         by_cases c41 : t388 = true
         rotate_left
         ·replace c41 := Bool.eq_false_iff.mpr c41
          subst c41
          have H1 : (impl_parts__impl_around.l3 k4 l0 x6_4 x36_2 x10_4 x11_3 (l0.length : Int) x36_2 t382 (t382.length : Int) (wrap64 (x66_4 + 1))) = some r := by rw [if_neg (show ¬ (false = true) by decide)] at H; exact H
          clear H
          have H := H1
          clear H1
          have H' := aM H
          clear H
          have p385 : 0 ≤ (x66_4 : Int) := of_decide_eq_true za
          have q385 : x66_4 < (t382.length : Int) := of_decide_eq_true za
          obtain ⟨ad385, e385, hx385_0, hx385_1⟩ := at_T58 (Kd.R_reads' HO_64.out).2.2 x66_4 p385 q385
          cases e385
          replace p385 := eq_true p385
          replace q385 := eq_true q385
          go_wp2_with (first | ((with_reducible refine gate_dst (N := 13) rfl ?_); refine zx 13 #[.int .i64 0, .int .i64 0] 58 ?_; intro gb386 hg w56 hbox hb; have hne386 : bm ≠ gb386 := (by rw [hg]; exact Nat.ne_of_lt (pm_lt (by (with_reducible repeat (first | apply pm_alloc | apply pm_drewN | apply pm_drew | refine pm_farN ?_ (by assumption) _)); exact HM.out))); have m0_ := aM (pm_step (by (with_reducible repeat (first | apply pm_alloc | apply pm_drewN | apply pm_drew | refine pm_farN ?_ (by assumption) _)); exact HM.out) hb); clear HM; have HM := m0_; clear m0_; have n0_ := aM (Kd.R_below (mR_ HO_6.out) hb); have n1_ := aM (Kd.R_below (mR_ HO_10.out) hb); have n2_ := aM (Kd.R_below (Kd.R_elderB (mR_ HO_64.out) gb386 (Nat.le_of_eq hg.symm)) hb); have n3_ := aM (below_step zb hb); have n4_ := aM (hbox); have n5_ := aM ((ze : w.heap.size ≤ gb386)); have n6_ := aM ((ze : w.heap.size ≤ gb386)); clear HO_6 HO_10 HO_64 HB; have HO_6 := n0_; have HO_10 := n1_; have HO_64 := n2_; have HB := n3_; have BK386 := n4_; have GW386 := n5_; have GE386 := n6_; clear n0_ n1_ n2_ n3_ n4_ n5_ n6_ hb hbox hg; have hcz57_0 : w56.cell? ⟨gb386, 0, none⟩ = some (.int .i64 0) := (blk_cell BK386.out 0).trans rfl; have hcz57_1 : w56.cell? ⟨gb386, 1, none⟩ = some (.int .i64 0) := (blk_cell BK386.out 1).trans rfl; have hfz57_0 := blk_frozen BK386.out 0; have hfz57_1 := blk_frozen BK386.out 1) | ((with_reducible refine gate_dst (N := 73) rfl ?_); refine pm_look rfl _ _ rfl rfl ?hM _ _ rfl A40.out ?_; (case hM => exact (by (with_reducible repeat (first | apply pm_alloc | apply pm_drewN | apply pm_drew | refine pm_farN ?_ (by assumption) _)); exact HM.out)); intro w58 hb m0h_; clear HM; have HM := aM m0h_; clear m0h_; have n0_ := aM (Kd.R_below (by (with_reducible repeat (first | apply Kd.R_alloc | apply Kd.R_drewN | apply Kd.R_drew)); exact (Kd.R_mono (Kd.R_far (p := ⟨gb386, 1, none⟩) (Kd.R_far (p := ⟨gb386, 0, none⟩) (Kd.R_types HO_6.out BK386.out (by decide)) (fun _ hk => hk.2) (.int .i64 ((rd_T58 t382 x66_4).f0))) (fun _ hk => hk.2) (.int .i64 ((rd_T58 t382 x66_4).f1))) (fun _ h_ => h_.1))) hb); have n1_ := aM (Kd.R_below (by (with_reducible repeat (first | apply Kd.R_alloc | apply Kd.R_drewN | apply Kd.R_drew)); exact (Kd.R_mono (Kd.R_far (p := ⟨gb386, 1, none⟩) (Kd.R_far (p := ⟨gb386, 0, none⟩) (Kd.R_types HO_10.out BK386.out (by decide)) (fun _ hk => hk.2) (.int .i64 ((rd_T58 t382 x66_4).f0))) (fun _ hk => hk.2) (.int .i64 ((rd_T58 t382 x66_4).f1))) (fun _ h_ => h_.1))) hb); have n2_ := aM (Kd.R_below (by (with_reducible repeat (first | apply Kd.R_alloc | apply Kd.R_drewN | apply Kd.R_drew)); exact (Kd.R_mono (Kd.R_far (p := ⟨gb386, 1, none⟩) (Kd.R_far (p := ⟨gb386, 0, none⟩) (Kd.R_mono HO_64.out (fun k_ hk => (⟨hk, hk.2⟩ : _ ∧ k_ ≠ gb386))) (fun _ hk => hk.2) (.int .i64 ((rd_T58 t382 x66_4).f0))) (fun _ hk => hk.2) (.int .i64 ((rd_T58 t382 x66_4).f1))) (fun _ h_ => h_.1))) hb); have n3_ := aM (blk_below (g := gb386) (o := .cells #[.int .i64 ((rd_T58 t382 x66_4).f0), .int .i64 ((rd_T58 t382 x66_4).f1)] 58 (0, 0)) (by (with_reducible repeat (first | refine blk_drewN ?_ _ | refine blk_drew ?_ | refine blk_alloc ?_ _)); refine blk_put (cs := #[.int .i64 ((rd_T58 t382 x66_4).f0), .int .i64 0]) ?_ 1 _ rfl; (with_reducible repeat (first | refine blk_drewN ?_ _ | refine blk_drew ?_ | refine blk_alloc ?_ _)); refine blk_put (cs := #[.int .i64 0, .int .i64 0]) ?_ 0 _ rfl; (with_reducible repeat (first | refine blk_drewN ?_ _ | refine blk_drew ?_ | refine blk_alloc ?_ _)); exact BK386.out) hb); have n4_ := aM (below_step (zs GE386.out) hb); clear HO_6 HO_10 HO_64 BK386 HB; have HO_6 := n0_; have HO_10 := n1_; have HO_64 := n2_; have BK386 := n3_; have HB := n4_; clear n0_ n1_ n2_ n3_ n4_; (try clear hb); (try clear hb2); (try clear hk); (try clear hi)))
          (try simp only [← hl6_4])
          go_roundg k4
          case measure => have := HK1.out; have := HK2.out; have := HK3.out; have := HK4.out; omega
          case rel => exact ⟨(x6_4), (x10_4), (wrap64 (x66_4 + 1)), zr, H', ⟨by have := HK1.out; have := HK2.out; have := HK3.out; have := HK4.out; omega⟩, ⟨by (try simp only [hl6_3]); (try simp only [hl6_4]); (with_reducible repeat (first | apply Kd.R_alloc | apply Kd.R_drewN | apply Kd.R_drew)); exact HO_6.out⟩, ⟨by (try simp only [hl6_3]); (try simp only [hl6_4]); (with_reducible repeat (first | apply Kd.R_alloc | apply Kd.R_drewN | apply Kd.R_drew)); exact HO_10.out⟩, ⟨by (try simp only [hl6_3]); (try simp only [hl6_4]); (with_reducible repeat (first | apply Kd.R_alloc | apply Kd.R_drewN | apply Kd.R_drew)); exact Kd.R_mono HO_64.out (fun _ hk => trivial)⟩, ⟨zs GE386.out⟩, ⟨(by (with_reducible repeat (first | apply pm_alloc | apply pm_drewN | apply pm_drew | refine pm_farN ?_ (by assumption) _)); exact HM.out)⟩⟩
         subst c41
         have H1 : (if 0 ≤ t387 then (if t387 < (x6_4.length : Int) then (if (rd x6_4 t387) < 0 then (if x10_4.length < 17592186044416 then (impl_parts__impl_around.l3 k4 l0 (x6_4.set (t387 : Int).toNat x36_2) x36_2 (x10_4 ++ [t387]) x11_3 (l0.length : Int) x36_2 t382 (t382.length : Int) (wrap64 (x66_4 + 1))) else (none)) else (impl_parts__impl_around.l3 k4 l0 x6_4 x36_2 x10_4 x11_3 (l0.length : Int) x36_2 t382 (t382.length : Int) (wrap64 (x66_4 + 1)))) else (none)) else (none)) = some r := by rw [if_pos rfl] at H; exact H
         clear H
         have H := H1
         clear H1
         by_cases c42 : 0 ≤ t387
         rotate_left
         ·rw [if_neg c42] at H
          exact absurd H (by simp)
         rw [if_pos c42] at H
         have c42b0 : decide (0 ≤ t387) = true := decide_eq_true c42
         clear c42
         by_cases c43 : t387 < (x6_4.length : Int)
         rotate_left
         ·rw [if_neg c43] at H
          exact absurd H (by simp)
         rw [if_pos c43] at H
         have c43b0 : decide (t387 < (x6_4.length : Int)) = true := decide_eq_true c43
         clear c43
         by_cases c44 : (rd x6_4 t387) < 0
         rotate_left
         ·rw [if_neg c44] at H
          have c44b0 : decide ((rd x6_4 t387) < 0) = false := decide_eq_false c44
          clear c44
          have H' := aM H
          clear H
          have p385 : 0 ≤ (x66_4 : Int) := of_decide_eq_true za
          have q385 : x66_4 < (t382.length : Int) := of_decide_eq_true za
          obtain ⟨ad385, e385, hx385_0, hx385_1⟩ := at_T58 (Kd.R_reads' HO_64.out).2.2 x66_4 p385 q385
          cases e385
          replace p385 := eq_true p385
          replace q385 := eq_true q385
          go_wp2_with (first | ((with_reducible refine gate_dst (N := 13) rfl ?_); refine zx 13 #[.int .i64 0, .int .i64 0] 58 ?_; intro gb386 hg w53 hbox hb; have hne386 : bm ≠ gb386 := (by rw [hg]; exact Nat.ne_of_lt (pm_lt (by (with_reducible repeat (first | apply pm_alloc | apply pm_drewN | apply pm_drew | refine pm_farN ?_ (by assumption) _)); exact HM.out))); have m0_ := aM (pm_step (by (with_reducible repeat (first | apply pm_alloc | apply pm_drewN | apply pm_drew | refine pm_farN ?_ (by assumption) _)); exact HM.out) hb); clear HM; have HM := m0_; clear m0_; have n0_ := aM (Kd.R_below (mR_ HO_6.out) hb); have n1_ := aM (Kd.R_below (mR_ HO_10.out) hb); have n2_ := aM (Kd.R_below (Kd.R_elderB (mR_ HO_64.out) gb386 (Nat.le_of_eq hg.symm)) hb); have n3_ := aM (below_step zb hb); have n4_ := aM (hbox); have n5_ := aM ((ze : w.heap.size ≤ gb386)); have n6_ := aM ((ze : w.heap.size ≤ gb386)); clear HO_6 HO_10 HO_64 HB; have HO_6 := n0_; have HO_10 := n1_; have HO_64 := n2_; have HB := n3_; have BK386 := n4_; have GW386 := n5_; have GE386 := n6_; clear n0_ n1_ n2_ n3_ n4_ n5_ n6_ hb hbox hg; have hcz54_0 : w53.cell? ⟨gb386, 0, none⟩ = some (.int .i64 0) := (blk_cell BK386.out 0).trans rfl; have hcz54_1 : w53.cell? ⟨gb386, 1, none⟩ = some (.int .i64 0) := (blk_cell BK386.out 1).trans rfl; have hfz54_0 := blk_frozen BK386.out 0; have hfz54_1 := blk_frozen BK386.out 1) | ((with_reducible refine gate_dst (N := 73) rfl ?_); refine pm_look rfl _ _ rfl rfl ?hM _ _ rfl A40.out ?_; (case hM => exact (by (with_reducible repeat (first | apply pm_alloc | apply pm_drewN | apply pm_drew | refine pm_farN ?_ (by assumption) _)); exact HM.out)); intro w55 hb m0h_; clear HM; have HM := aM m0h_; clear m0h_; have n0_ := aM (Kd.R_below (by (with_reducible repeat (first | apply Kd.R_alloc | apply Kd.R_drewN | apply Kd.R_drew)); exact (Kd.R_mono (Kd.R_far (p := ⟨gb386, 1, none⟩) (Kd.R_far (p := ⟨gb386, 0, none⟩) (Kd.R_types HO_6.out BK386.out (by decide)) (fun _ hk => hk.2) (.int .i64 ((rd_T58 t382 x66_4).f0))) (fun _ hk => hk.2) (.int .i64 ((rd_T58 t382 x66_4).f1))) (fun _ h_ => h_.1))) hb); have n1_ := aM (Kd.R_below (by (with_reducible repeat (first | apply Kd.R_alloc | apply Kd.R_drewN | apply Kd.R_drew)); exact (Kd.R_mono (Kd.R_far (p := ⟨gb386, 1, none⟩) (Kd.R_far (p := ⟨gb386, 0, none⟩) (Kd.R_types HO_10.out BK386.out (by decide)) (fun _ hk => hk.2) (.int .i64 ((rd_T58 t382 x66_4).f0))) (fun _ hk => hk.2) (.int .i64 ((rd_T58 t382 x66_4).f1))) (fun _ h_ => h_.1))) hb); have n2_ := aM (Kd.R_below (by (with_reducible repeat (first | apply Kd.R_alloc | apply Kd.R_drewN | apply Kd.R_drew)); exact (Kd.R_mono (Kd.R_far (p := ⟨gb386, 1, none⟩) (Kd.R_far (p := ⟨gb386, 0, none⟩) (Kd.R_mono HO_64.out (fun k_ hk => (⟨hk, hk.2⟩ : _ ∧ k_ ≠ gb386))) (fun _ hk => hk.2) (.int .i64 ((rd_T58 t382 x66_4).f0))) (fun _ hk => hk.2) (.int .i64 ((rd_T58 t382 x66_4).f1))) (fun _ h_ => h_.1))) hb); have n3_ := aM (blk_below (g := gb386) (o := .cells #[.int .i64 ((rd_T58 t382 x66_4).f0), .int .i64 ((rd_T58 t382 x66_4).f1)] 58 (0, 0)) (by (with_reducible repeat (first | refine blk_drewN ?_ _ | refine blk_drew ?_ | refine blk_alloc ?_ _)); refine blk_put (cs := #[.int .i64 ((rd_T58 t382 x66_4).f0), .int .i64 0]) ?_ 1 _ rfl; (with_reducible repeat (first | refine blk_drewN ?_ _ | refine blk_drew ?_ | refine blk_alloc ?_ _)); refine blk_put (cs := #[.int .i64 0, .int .i64 0]) ?_ 0 _ rfl; (with_reducible repeat (first | refine blk_drewN ?_ _ | refine blk_drew ?_ | refine blk_alloc ?_ _)); exact BK386.out) hb); have n4_ := aM (below_step (zs GE386.out) hb); clear HO_6 HO_10 HO_64 BK386 HB; have HO_6 := n0_; have HO_10 := n1_; have HO_64 := n2_; have BK386 := n3_; have HB := n4_; clear n0_ n1_ n2_ n3_ n4_; (try clear hb); (try clear hb2); (try clear hk); (try clear hi); have p389 : 0 ≤ (t387 : Int) := of_decide_eq_true za; have q389 : t387 < (x6_4.length : Int) := of_decide_eq_true za; obtain ⟨ad389, e389, hx389_0⟩ := Kd.at_int (Kd.R_reads' HO_6.out).2.2 t387 p389 q389; obtain rfl : (⟨go23, 0, none⟩ : Addr) = ad389 := (by injection e389); (first | simp only [add_plain] at hx389_0 | simp only [add_at] at hx389_0 | simp only [Addr.add, Nat.zero_add] at hx389_0 | skip); replace p389 := eq_true p389; replace q389 := eq_true q389))
          (try simp only [← hl6_4])
          go_roundg k4
          case measure => have := HK1.out; have := HK2.out; have := HK3.out; have := HK4.out; omega
          case rel => exact ⟨(x6_4), (x10_4), (wrap64 (x66_4 + 1)), zr, H', ⟨by have := HK1.out; have := HK2.out; have := HK3.out; have := HK4.out; omega⟩, ⟨by (try simp only [hl6_3]); (try simp only [hl6_4]); (with_reducible repeat (first | apply Kd.R_alloc | apply Kd.R_drewN | apply Kd.R_drew)); exact HO_6.out⟩, ⟨by (try simp only [hl6_3]); (try simp only [hl6_4]); (with_reducible repeat (first | apply Kd.R_alloc | apply Kd.R_drewN | apply Kd.R_drew)); exact HO_10.out⟩, ⟨by (try simp only [hl6_3]); (try simp only [hl6_4]); (with_reducible repeat (first | apply Kd.R_alloc | apply Kd.R_drewN | apply Kd.R_drew)); exact Kd.R_mono HO_64.out (fun _ hk => trivial)⟩, ⟨zs GE386.out⟩, ⟨(by (with_reducible repeat (first | apply pm_alloc | apply pm_drewN | apply pm_drew | refine pm_farN ?_ (by assumption) _)); exact HM.out)⟩⟩
         rw [if_pos c44] at H
         have c44b0 : decide ((rd x6_4 t387) < 0) = true := decide_eq_true c44
         clear c44
         obtain ⟨y390, hy390⟩ : ∃ y_ : List Int, y_ = (x6_4.set (t387 : Int).toNat x36_2) := ⟨_, rfl⟩
         replace H : (if x10_4.length < 17592186044416 then (impl_parts__impl_around.l3 k4 l0 y390 x36_2 (x10_4 ++ [t387]) x11_3 (l0.length : Int) x36_2 t382 (t382.length : Int) (wrap64 (x66_4 + 1))) else (none)) = some r := zy H hy390
         have Ny390 := aM hy390
         clear hy390
         by_cases c46 : x10_4.length < 17592186044416
         rotate_left
         ·rw [if_neg c46] at H
          exact absurd H (by simp)
         rw [if_pos c46] at H
         have LMc46 := aM c46
         clear c46
         obtain ⟨y391, hy391⟩ : ∃ y_ : List Int, y_ = (x10_4 ++ [t387]) := ⟨_, rfl⟩
         replace H : (impl_parts__impl_around.l3 k4 l0 y390 x36_2 y391 x11_3 (l0.length : Int) x36_2 t382 (t382.length : Int) (wrap64 (x66_4 + 1))) = some r := zy H hy391
         have Ny391 := aM hy391
         clear hy391
         have H' := aM H
         clear H
         have p385 : 0 ≤ (x66_4 : Int) := of_decide_eq_true za
         have q385 : x66_4 < (t382.length : Int) := of_decide_eq_true za
         obtain ⟨ad385, e385, hx385_0, hx385_1⟩ := at_T58 (Kd.R_reads' HO_64.out).2.2 x66_4 p385 q385
         cases e385
         replace p385 := eq_true p385
         replace q385 := eq_true q385
         go_wp2_with (first | ((with_reducible refine gate_dst (N := 13) rfl ?_); refine zx 13 #[.int .i64 0, .int .i64 0] 58 ?_; intro gb386 hg w47 hbox hb; have hne386 : bm ≠ gb386 := (by rw [hg]; exact Nat.ne_of_lt (pm_lt (by (with_reducible repeat (first | apply pm_alloc | apply pm_drewN | apply pm_drew | refine pm_farN ?_ (by assumption) _)); exact HM.out))); have m0_ := aM (pm_step (by (with_reducible repeat (first | apply pm_alloc | apply pm_drewN | apply pm_drew | refine pm_farN ?_ (by assumption) _)); exact HM.out) hb); clear HM; have HM := m0_; clear m0_; have n0_ := aM (Kd.R_below (mR_ HO_6.out) hb); have n1_ := aM (Kd.R_below (mR_ HO_10.out) hb); have n2_ := aM (Kd.R_below (Kd.R_elderB (mR_ HO_64.out) gb386 (Nat.le_of_eq hg.symm)) hb); have n3_ := aM (below_step zb hb); have n4_ := aM (hbox); have n5_ := aM ((ze : w.heap.size ≤ gb386)); have n6_ := aM ((ze : w.heap.size ≤ gb386)); clear HO_6 HO_10 HO_64 HB; have HO_6 := n0_; have HO_10 := n1_; have HO_64 := n2_; have HB := n3_; have BK386 := n4_; have GW386 := n5_; have GE386 := n6_; clear n0_ n1_ n2_ n3_ n4_ n5_ n6_ hb hbox hg; have hcz48_0 : w47.cell? ⟨gb386, 0, none⟩ = some (.int .i64 0) := (blk_cell BK386.out 0).trans rfl; have hcz48_1 : w47.cell? ⟨gb386, 1, none⟩ = some (.int .i64 0) := (blk_cell BK386.out 1).trans rfl; have hfz48_0 := blk_frozen BK386.out 0; have hfz48_1 := blk_frozen BK386.out 1) | ((with_reducible refine gate_dst (N := 73) rfl ?_); refine pm_look rfl _ _ rfl rfl ?hM _ _ rfl A40.out ?_; (case hM => exact (by (with_reducible repeat (first | apply pm_alloc | apply pm_drewN | apply pm_drew | refine pm_farN ?_ (by assumption) _)); exact HM.out)); intro w49 hb m0h_; clear HM; have HM := aM m0h_; clear m0h_; have n0_ := aM (Kd.R_below (by (with_reducible repeat (first | apply Kd.R_alloc | apply Kd.R_drewN | apply Kd.R_drew)); exact (Kd.R_mono (Kd.R_far (p := ⟨gb386, 1, none⟩) (Kd.R_far (p := ⟨gb386, 0, none⟩) (Kd.R_types HO_6.out BK386.out (by decide)) (fun _ hk => hk.2) (.int .i64 ((rd_T58 t382 x66_4).f0))) (fun _ hk => hk.2) (.int .i64 ((rd_T58 t382 x66_4).f1))) (fun _ h_ => h_.1))) hb); have n1_ := aM (Kd.R_below (by (with_reducible repeat (first | apply Kd.R_alloc | apply Kd.R_drewN | apply Kd.R_drew)); exact (Kd.R_mono (Kd.R_far (p := ⟨gb386, 1, none⟩) (Kd.R_far (p := ⟨gb386, 0, none⟩) (Kd.R_types HO_10.out BK386.out (by decide)) (fun _ hk => hk.2) (.int .i64 ((rd_T58 t382 x66_4).f0))) (fun _ hk => hk.2) (.int .i64 ((rd_T58 t382 x66_4).f1))) (fun _ h_ => h_.1))) hb); have n2_ := aM (Kd.R_below (by (with_reducible repeat (first | apply Kd.R_alloc | apply Kd.R_drewN | apply Kd.R_drew)); exact (Kd.R_mono (Kd.R_far (p := ⟨gb386, 1, none⟩) (Kd.R_far (p := ⟨gb386, 0, none⟩) (Kd.R_mono HO_64.out (fun k_ hk => (⟨hk, hk.2⟩ : _ ∧ k_ ≠ gb386))) (fun _ hk => hk.2) (.int .i64 ((rd_T58 t382 x66_4).f0))) (fun _ hk => hk.2) (.int .i64 ((rd_T58 t382 x66_4).f1))) (fun _ h_ => h_.1))) hb); have n3_ := aM (blk_below (g := gb386) (o := .cells #[.int .i64 ((rd_T58 t382 x66_4).f0), .int .i64 ((rd_T58 t382 x66_4).f1)] 58 (0, 0)) (by (with_reducible repeat (first | refine blk_drewN ?_ _ | refine blk_drew ?_ | refine blk_alloc ?_ _)); refine blk_put (cs := #[.int .i64 ((rd_T58 t382 x66_4).f0), .int .i64 0]) ?_ 1 _ rfl; (with_reducible repeat (first | refine blk_drewN ?_ _ | refine blk_drew ?_ | refine blk_alloc ?_ _)); refine blk_put (cs := #[.int .i64 0, .int .i64 0]) ?_ 0 _ rfl; (with_reducible repeat (first | refine blk_drewN ?_ _ | refine blk_drew ?_ | refine blk_alloc ?_ _)); exact BK386.out) hb); have n4_ := aM (below_step (zs GE386.out) hb); clear HO_6 HO_10 HO_64 BK386 HB; have HO_6 := n0_; have HO_10 := n1_; have HO_64 := n2_; have BK386 := n3_; have HB := n4_; clear n0_ n1_ n2_ n3_ n4_; (try clear hb); (try clear hb2); (try clear hk); (try clear hi); have p389 : 0 ≤ (t387 : Int) := of_decide_eq_true za; have q389 : t387 < (x6_4.length : Int) := of_decide_eq_true za; obtain ⟨ad389, e389, hx389_0⟩ := Kd.at_int (Kd.R_reads' HO_6.out).2.2 t387 p389 q389; obtain rfl : (⟨go23, 0, none⟩ : Addr) = ad389 := (by injection e389); (first | simp only [add_plain] at hx389_0 | simp only [add_at] at hx389_0 | simp only [Addr.add, Nat.zero_add] at hx389_0 | skip); replace p389 := eq_true p389; replace q389 := eq_true q389; have p45 : 0 ≤ (t387 : Int) := of_decide_eq_true za; have q45 : (t387 : Int) < ((x6_4.length : Int) : Int) := of_decide_eq_true za; obtain ⟨hx45_0, hf45_0⟩ := Kd.R_celln 0 HO_6.out (t387 : Int) p45 q45; replace p45 := eq_true p45; replace q45 := eq_true q45; obtain ⟨hy50_, hz50_⟩ := Kd.R_celln 0 HO_6.out (t387 : Int) (of_decide_eq_true za) (of_decide_eq_true za); have HP50 := Kd.R_putg HO_6.out (t387 : Int) x36_2) | ((with_reducible refine gate_store (t := 2) (p := 87) rfl ?_); refine store_event (t := 2) (p := 87) (v := ?vo_w51) (w1 := (w49.setCell ⟨go23, (t387 : Int).toNat, none⟩ (.int .i64 x36_2))) ?hg ?ho ?hn ?hr ?_; (case ho => rfl); (case hg => rfl); (case hn => rfl); (case hr => first | (go_simp; done) | (go_simp; rfl)); intro w51 hw; have hg : w49.grownBy w51 (some go23) := (by rw [hw]; exact HP50.2); have m0_ := aM (pm_kept (row := some go23) HM.out hg (pm_row HM.out HO_6.out)); clear HM; have HM := m0_; clear m0_; have hp_ : Kd.R (Kd.int .i64) 2 w51 w.heap.size (fun _ => True) (.slice (some ⟨go23, 0, none⟩) x6_4.length co24) y390 := (by rw [hw, Ny390.out]; exact HP50.1); clear HP50; have n0_ := aM (hp_); have n1_ := aM (Kd.R_over' (v := (.slice (some ⟨go23, 0, none⟩) x6_4.length co24)) (mR_ HO_10.out) (Kd.R_typed HO_6.out) (by decide) hg); have n2_ := aM (Kd.R_over' (v := (.slice (some ⟨go23, 0, none⟩) x6_4.length co24)) (mR_ HO_64.out) (Kd.R_typed HO_6.out) (by decide) hg); have n3_ := aM (blk_grown (g := gb386) (o := .cells #[.int .i64 ((rd_T58 t382 x66_4).f0), .int .i64 ((rd_T58 t382 x66_4).f1)] 58 (0, 0)) (mB_ BK386.out) hg (Kd.R_ne HO_6.out BK386.out (by decide))); have n4_ := aM ((by rw [hw]; exact below_set (HB.out) GB23.out : Below w.heap.size w w51)); clear HO_6 HO_10 HO_64 BK386 HB; have HO_6 := n0_; have HO_10 := n1_; have HO_64 := n2_; have BK386 := n3_; have HB := n4_; clear n0_ n1_ n2_ n3_ n4_; clear hg hw hp_) | ((with_reducible refine gate_builtin (b := .append) (xs := #[.tmp 88, .tmp 90]) rfl ?_); at_builtin; refine Kd.R_append (Kd.int .i64) (w0 := w) w.heap.size rfl (.tmp 88) (.tmp 90) 83 3 (.int .i64 0) 8 rfl Tryz.underlying83 info3 rfl (by decide) (by omega) u10 x10_4 t387 [.int .i64 t387] (fun _ => True) (fun _ => False) rfl rfl ?aP (fun _ hk => hk.elim) ?aF ?aO ?aB ?aS ?aL ?_; (case aP => exact rfl); (case aB => exact (zs GE386.out)); (case aF => exact (fun _ _ => trivial)); (case aO => exact (mR_ HO_10.out)); (case aS => exact (below_size (zs GE386.out))); (case aL => have := LMc46.out; omega); intro v392 w52 ho hb hg hat; have m0_ := aM (pm_append (by (with_reducible repeat (first | apply pm_alloc | apply pm_drewN | apply pm_drew | refine pm_farN ?_ (by assumption) _)); exact HM.out) (mR_ HO_10.out) hg); clear HM; have HM := m0_; clear m0_; rw [← Ny391.out] at ho; have n0_ := aM (Kd.R_over' (mR_ HO_6.out) (Kd.R_typed (mR_ HO_10.out)) (by decide) hg); have n1_ := aM (Kd.R_over' (mR_ HO_64.out) (Kd.R_typed (mR_ HO_10.out)) (by decide) hg); have n2_ := aM (blk_grown (g := gb386) (o := .cells #[.int .i64 ((rd_T58 t382 x66_4).f0), .int .i64 ((rd_T58 t382 x66_4).f1)] 58 (0, 0)) (mB_ BK386.out) hg (Kd.R_ne HO_10.out BK386.out (by decide))); have n3_ := aM (hb); have n4_ := aM (ho); clear HO_6 HO_64 BK386 HB HO_10; have HO_6 := n0_; have HO_64 := n1_; have BK386 := n2_; have HB := n3_; have HO393 := n4_; clear n0_ n1_ n2_ n3_ n4_; clear ho hb hg hat))
         (try simp only [← hl6_4])
         go_roundg k4
         case measure => have := HK1.out; have := HK2.out; have := HK3.out; have := HK4.out; omega
         case rel => exact ⟨(y390), (y391), (wrap64 (x66_4 + 1)), zr, H', ⟨by have := HK1.out; have := HK2.out; have := HK3.out; have := HK4.out; omega⟩, ⟨by (try simp only [hl6_3]); (try simp only [hl6_4]); (with_reducible repeat (first | apply Kd.R_alloc | apply Kd.R_drewN | apply Kd.R_drew)); exact HO_6.out⟩, ⟨by (try simp only [hl6_3]); (try simp only [hl6_4]); (with_reducible repeat (first | apply Kd.R_alloc | apply Kd.R_drewN | apply Kd.R_drew)); exact HO393.out⟩, ⟨by (try simp only [hl6_3]); (try simp only [hl6_4]); (with_reducible repeat (first | apply Kd.R_alloc | apply Kd.R_drewN | apply Kd.R_drew)); exact Kd.R_mono HO_64.out (fun _ hk => trivial)⟩, ⟨zs GE386.out⟩, ⟨(by (with_reducible repeat (first | apply pm_alloc | apply pm_drewN | apply pm_drew | refine pm_farN ?_ (by assumption) _)); exact HM.out)⟩⟩
def impl_connected__impl_around.f (k : Nat) (l0 : List (S58))  : Option (Bool) := (impl_parts__impl_around.f k l0).bind fun t394 => ((slices_Max_int64_int64.f k t394).bind fun t397 => (some (t397 == 0)))
theorem impl_connected__impl_around.calls (k : Nat) (A0 : Option Addr) (c0 : Nat) (l0 : List (S58))  (r : Bool) (w : World) (hr0 : Kd.C k58 w A0 l0.length l0) (hc0 : l0.length ≤ c0) (h : impl_connected__impl_around.f k l0 = some r) :
  Calls Tryz.prog 42 #[.slice A0 l0.length c0, .func (.func 43) #[] #[]] w fun e w' => e = .returned (.bool r) ∧ Below w.heap.size w w' := by
 have HR0 := aM hr0
 have HC0 := aM hc0
 clear hr0 hc0
 have HB := aM (Below.refl w.heap.size w)
 have H : ((impl_parts__impl_around.f k l0).bind fun t394 => ((slices_Max_int64_int64.f k t394).bind fun t397 => (some (t397 == 0)))) = some r := h
 clear h
 replace H := Option.bind_eq_some_iff.mp H
 obtain ⟨t394, A30, H⟩ := H
 replace H : ((slices_Max_int64_int64.f k t394).bind fun t397 => (some (t397 == 0))) = some r := H
 have A3 := aM A30
 clear A30
 replace H := Option.bind_eq_some_iff.mp H
 obtain ⟨t397, A40, H⟩ := H
 replace H : (some (t397 == 0)) = some r := H
 have A4 := aM A40
 clear A40
 obtain rfl := Option.some.inj H
 go_enter Tryz.func42, Tryz.ntmps42
 go_wp2_with (first | ((with_reducible refine gate_callee (f := 60) rfl ?_); refine goesL_ (some 7) rfl rfl Tryz.func60 (by kernel_rfl) rfl #[.slice A0 l0.length c0, .func (.func 43) #[] #[]] rfl zm ?_; (with_reducible refine (impl_parts__impl_around.calls k _ _ l0  t394 _ ?side1 ?side2 A3.out).mono ?_); (case side1 => repeat (first | exact HR0.out | (with_reducible refine Kd.C_alloc ?_ _) | (with_reducible refine Kd.C_drewN ?_ _) | (with_reducible refine Kd.C_drew ?_))); (case side2 => exact HC0.out); rintro e w5 ⟨v395, rfl, ho0, hb⟩; refine ⟨_, rfl, ?_⟩; have n0_ := aM (Kd.R_lower ho0 (below_size zb)); have n1_ := aM (below_step zb hb); clear HB; have HO396 := n0_; have HB := n1_; clear n0_ n1_; (try clear hb); (try clear hb2); (try clear hk); (try clear hi); (try clear ho0); obtain ⟨Ao6, co6, eo6⟩ := Kd.R_slice HO396.out; subst eo6) | ((with_reducible refine gate_callee (f := 59) rfl ?_); refine goesL_ (some 8) rfl rfl Tryz.func59 (by kernel_rfl) rfl #[.slice Ao6 t394.length co6] rfl zm ?_; (with_reducible refine (slices_Max_int64_int64.calls k _ _ t394 t397 _ ?side1 ?side2 A4.out).mono ?_); (case side1 => exact zc HO396.out); (case side2 => exact (Kd.R_reads' HO396.out).2.1); rintro e w7 ⟨rfl, hb⟩; refine ⟨_, rfl, ?_⟩; have n0_ := aM (Kd.R_below (mR_ HO396.out) hb); have n1_ := aM (below_step zb hb); clear HO396 HB; have HO396 := n0_; have HB := n1_; clear n0_ n1_; (try clear hb); (try clear hb2); (try clear hk); (try clear hi)))
 go_ret
 exact ⟨zw, zb⟩
def impl_IsPiece.f (k : Nat) (l0_0 : List (S58)) (a0_1 : Int) (a0_2 : Bool) : Option (Bool) := (impl_IsRegion.f k l0_0).bind fun t399 => (if t399 = true then ((impl_connected__impl_around.f k l0_0).bind fun t400 => (if t400 = true then ((impl_within.f a0_1 1 8).bind fun t401 => (some t401)) else (some false))) else (some false))
theorem impl_IsPiece.calls (k : Nat) (A0_0 : Option Addr) (c0_0 : Nat) (l0_0 : List (S58)) (a0_1 : Int) (a0_2 : Bool) (r : Bool) (w : World) (hr0_0 : Kd.C k58 w A0_0 l0_0.length l0_0) (hc0_0 : l0_0.length ≤ c0_0) (h : impl_IsPiece.f k l0_0 a0_1 a0_2 = some r) :
  Calls Tryz.prog 24 #[.agg #[.slice A0_0 l0_0.length c0_0, .int .i64 a0_1, .bool a0_2]] w fun e w' => e = .returned (.bool r) ∧ Below w.heap.size w w' := by
 have hu43 := Tryz.underlying43
 have HR0_0 := aM hr0_0
 have HC0_0 := aM hc0_0
 clear hr0_0 hc0_0
 have HB := aM (Below.refl w.heap.size w)
 have H : ((impl_IsRegion.f k l0_0).bind fun t399 => (if t399 = true then ((impl_connected__impl_around.f k l0_0).bind fun t400 => (if t400 = true then ((impl_within.f a0_1 1 8).bind fun t401 => (some t401)) else (some false))) else (some false))) = some r := h
 clear h
 replace H := Option.bind_eq_some_iff.mp H
 obtain ⟨t399, A20, H⟩ := H
 replace H : (if t399 = true then ((impl_connected__impl_around.f k l0_0).bind fun t400 => (if t400 = true then ((impl_within.f a0_1 1 8).bind fun t401 => (some t401)) else (some false))) else (some false)) = some r := H
 have A2 := aM A20
 clear A20
 by_cases c3 : t399 = true
 rotate_left
 ·replace c3 := Bool.eq_false_iff.mpr c3
  subst c3
  have H1 : (some false) = some r := by rw [if_neg (show ¬ (false = true) by decide)] at H; exact H
  clear H
  have H := H1
  clear H1
  obtain rfl := Option.some.inj H
  go_enter Tryz.func24, Tryz.ntmps24
  go_wp2_with (first | ((with_reducible refine gate_dst (N := 1) rfl ?_); refine zx 1 #[.slice A0_0 l0_0.length c0_0, .int .i64 a0_1, .bool a0_2] 43 ?_; intro gb398 hg w18 hbox hb; have n0_ := aM (below_step zb hb); have n1_ := aM (hbox); have n2_ := aM ((ze : w.heap.size ≤ gb398)); have n3_ := aM ((ze : w.heap.size ≤ gb398)); clear HB; have HB := n0_; have BK398 := n1_; have GW398 := n2_; have GE398 := n3_; clear n0_ n1_ n2_ n3_ hb hbox hg; have hcz19_0 : w18.cell? ⟨gb398, 0, none⟩ = some (.slice A0_0 l0_0.length c0_0) := (blk_cell BK398.out 0).trans rfl; have hcz19_1 : w18.cell? ⟨gb398, 1, none⟩ = some (.int .i64 a0_1) := (blk_cell BK398.out 1).trans rfl; have hcz19_2 : w18.cell? ⟨gb398, 2, none⟩ = some (.bool a0_2) := (blk_cell BK398.out 2).trans rfl; have hfz19_0 := blk_frozen BK398.out 0; have hfz19_1 := blk_frozen BK398.out 1; have hfz19_2 := blk_frozen BK398.out 2) | ((with_reducible refine gate_callee (f := 23) rfl ?_); refine goesL_ (some 5) rfl rfl Tryz.func23 (by kernel_rfl) rfl #[.slice A0_0 l0_0.length c0_0] rfl zm ?_; (with_reducible refine (impl_IsRegion.calls k _ _ l0_0 false _ ?side1 ?side2 A2.out).mono ?_); (case side1 => repeat (first | exact (Kd.C_below HR0_0.out HB.out) | (with_reducible refine Kd.C_alloc ?_ _) | (with_reducible refine Kd.C_drewN ?_ _) | (with_reducible refine Kd.C_drew ?_))); (case side2 => exact HC0_0.out); rintro e w20 ⟨rfl, hb⟩; refine ⟨_, rfl, ?_⟩; have n0_ := aM (blk_below (g := gb398) (o := .cells #[.slice A0_0 l0_0.length c0_0, .int .i64 a0_1, .bool a0_2] 43 (0, 0)) (mB_ BK398.out) hb); have n1_ := aM (below_step (zs GE398.out) hb); clear BK398 HB; have BK398 := n0_; have HB := n1_; clear n0_ n1_; (try clear hb); (try clear hb2); (try clear hk); (try clear hi)))
  go_ret
  exact ⟨zw, zs GE398.out⟩
 subst c3
 have H1 : ((impl_connected__impl_around.f k l0_0).bind fun t400 => (if t400 = true then ((impl_within.f a0_1 1 8).bind fun t401 => (some t401)) else (some false))) = some r := by rw [if_pos rfl] at H; exact H
 clear H
 have H := H1
 clear H1
 replace H := Option.bind_eq_some_iff.mp H
 obtain ⟨t400, A40, H⟩ := H
 replace H : (if t400 = true then ((impl_within.f a0_1 1 8).bind fun t401 => (some t401)) else (some false)) = some r := H
 have A4 := aM A40
 clear A40
 by_cases c5 : t400 = true
 rotate_left
 ·replace c5 := Bool.eq_false_iff.mpr c5
  subst c5
  have H1 : (some false) = some r := by rw [if_neg (show ¬ (false = true) by decide)] at H; exact H
  clear H
  have H := H1
  clear H1
  obtain rfl := Option.some.inj H
  go_enter Tryz.func24, Tryz.ntmps24
  go_wp2_with (first | ((with_reducible refine gate_dst (N := 1) rfl ?_); refine zx 1 #[.slice A0_0 l0_0.length c0_0, .int .i64 a0_1, .bool a0_2] 43 ?_; intro gb398 hg w13 hbox hb; have n0_ := aM (below_step zb hb); have n1_ := aM (hbox); have n2_ := aM ((ze : w.heap.size ≤ gb398)); have n3_ := aM ((ze : w.heap.size ≤ gb398)); clear HB; have HB := n0_; have BK398 := n1_; have GW398 := n2_; have GE398 := n3_; clear n0_ n1_ n2_ n3_ hb hbox hg; have hcz14_0 : w13.cell? ⟨gb398, 0, none⟩ = some (.slice A0_0 l0_0.length c0_0) := (blk_cell BK398.out 0).trans rfl; have hcz14_1 : w13.cell? ⟨gb398, 1, none⟩ = some (.int .i64 a0_1) := (blk_cell BK398.out 1).trans rfl; have hcz14_2 : w13.cell? ⟨gb398, 2, none⟩ = some (.bool a0_2) := (blk_cell BK398.out 2).trans rfl; have hfz14_0 := blk_frozen BK398.out 0; have hfz14_1 := blk_frozen BK398.out 1; have hfz14_2 := blk_frozen BK398.out 2) | ((with_reducible refine gate_callee (f := 23) rfl ?_); refine goesL_ (some 5) rfl rfl Tryz.func23 (by kernel_rfl) rfl #[.slice A0_0 l0_0.length c0_0] rfl zm ?_; (with_reducible refine (impl_IsRegion.calls k _ _ l0_0 true _ ?side1 ?side2 A2.out).mono ?_); (case side1 => repeat (first | exact (Kd.C_below HR0_0.out HB.out) | (with_reducible refine Kd.C_alloc ?_ _) | (with_reducible refine Kd.C_drewN ?_ _) | (with_reducible refine Kd.C_drew ?_))); (case side2 => exact HC0_0.out); rintro e w15 ⟨rfl, hb⟩; refine ⟨_, rfl, ?_⟩; have n0_ := aM (blk_below (g := gb398) (o := .cells #[.slice A0_0 l0_0.length c0_0, .int .i64 a0_1, .bool a0_2] 43 (0, 0)) (mB_ BK398.out) hb); have n1_ := aM (below_step (zs GE398.out) hb); clear BK398 HB; have BK398 := n0_; have HB := n1_; clear n0_ n1_; (try clear hb); (try clear hb2); (try clear hk); (try clear hi); have hcz16_0 : w15.cell? ⟨gb398, 0, none⟩ = some (.slice A0_0 l0_0.length c0_0) := (blk_cell BK398.out 0).trans rfl; have hcz16_1 : w15.cell? ⟨gb398, 1, none⟩ = some (.int .i64 a0_1) := (blk_cell BK398.out 1).trans rfl; have hcz16_2 : w15.cell? ⟨gb398, 2, none⟩ = some (.bool a0_2) := (blk_cell BK398.out 2).trans rfl; have hfz16_0 := blk_frozen BK398.out 0; have hfz16_1 := blk_frozen BK398.out 1; have hfz16_2 := blk_frozen BK398.out 2) | (go_at_call 42; (with_reducible refine (impl_connected__impl_around.calls k _ _ l0_0  false _ ?side1 ?side2 A4.out).mono ?_); (case side1 => repeat (first | exact (Kd.C_below HR0_0.out HB.out) | (with_reducible refine Kd.C_alloc ?_ _) | (with_reducible refine Kd.C_drewN ?_ _) | (with_reducible refine Kd.C_drew ?_))); (case side2 => exact HC0_0.out); rintro e w17 ⟨rfl, hb⟩; have n0_ := aM (blk_below (g := gb398) (o := .cells #[.slice A0_0 l0_0.length c0_0, .int .i64 a0_1, .bool a0_2] 43 (0, 0)) (mB_ BK398.out) hb); have n1_ := aM (below_step (zs GE398.out) hb); clear BK398 HB; have BK398 := n0_; have HB := n1_; clear n0_ n1_; (try clear hb); (try clear hb2); (try clear hk); (try clear hi)))
  go_ret
  exact ⟨zw, zs GE398.out⟩
 subst c5
 have H1 : ((impl_within.f a0_1 1 8).bind fun t401 => (some t401)) = some r := by rw [if_pos rfl] at H; exact H
 clear H
 have H := H1
 clear H1
 replace H := Option.bind_eq_some_iff.mp H
 obtain ⟨t401, A60, H⟩ := H
 replace H : (some t401) = some r := H
 have A6 := aM A60
 clear A60
 obtain rfl := Option.some.inj H
 go_enter Tryz.func24, Tryz.ntmps24
 go_wp2_with (first | ((with_reducible refine gate_dst (N := 1) rfl ?_); refine zx 1 #[.slice A0_0 l0_0.length c0_0, .int .i64 a0_1, .bool a0_2] 43 ?_; intro gb398 hg w7 hbox hb; have n0_ := aM (below_step zb hb); have n1_ := aM (hbox); have n2_ := aM ((ze : w.heap.size ≤ gb398)); have n3_ := aM ((ze : w.heap.size ≤ gb398)); clear HB; have HB := n0_; have BK398 := n1_; have GW398 := n2_; have GE398 := n3_; clear n0_ n1_ n2_ n3_ hb hbox hg; have hcz8_0 : w7.cell? ⟨gb398, 0, none⟩ = some (.slice A0_0 l0_0.length c0_0) := (blk_cell BK398.out 0).trans rfl; have hcz8_1 : w7.cell? ⟨gb398, 1, none⟩ = some (.int .i64 a0_1) := (blk_cell BK398.out 1).trans rfl; have hcz8_2 : w7.cell? ⟨gb398, 2, none⟩ = some (.bool a0_2) := (blk_cell BK398.out 2).trans rfl; have hfz8_0 := blk_frozen BK398.out 0; have hfz8_1 := blk_frozen BK398.out 1; have hfz8_2 := blk_frozen BK398.out 2) | ((with_reducible refine gate_callee (f := 23) rfl ?_); refine goesL_ (some 5) rfl rfl Tryz.func23 (by kernel_rfl) rfl #[.slice A0_0 l0_0.length c0_0] rfl zm ?_; (with_reducible refine (impl_IsRegion.calls k _ _ l0_0 true _ ?side1 ?side2 A2.out).mono ?_); (case side1 => repeat (first | exact (Kd.C_below HR0_0.out HB.out) | (with_reducible refine Kd.C_alloc ?_ _) | (with_reducible refine Kd.C_drewN ?_ _) | (with_reducible refine Kd.C_drew ?_))); (case side2 => exact HC0_0.out); rintro e w9 ⟨rfl, hb⟩; refine ⟨_, rfl, ?_⟩; have n0_ := aM (blk_below (g := gb398) (o := .cells #[.slice A0_0 l0_0.length c0_0, .int .i64 a0_1, .bool a0_2] 43 (0, 0)) (mB_ BK398.out) hb); have n1_ := aM (below_step (zs GE398.out) hb); clear BK398 HB; have BK398 := n0_; have HB := n1_; clear n0_ n1_; (try clear hb); (try clear hb2); (try clear hk); (try clear hi); have hcz10_0 : w9.cell? ⟨gb398, 0, none⟩ = some (.slice A0_0 l0_0.length c0_0) := (blk_cell BK398.out 0).trans rfl; have hcz10_1 : w9.cell? ⟨gb398, 1, none⟩ = some (.int .i64 a0_1) := (blk_cell BK398.out 1).trans rfl; have hcz10_2 : w9.cell? ⟨gb398, 2, none⟩ = some (.bool a0_2) := (blk_cell BK398.out 2).trans rfl; have hfz10_0 := blk_frozen BK398.out 0; have hfz10_1 := blk_frozen BK398.out 1; have hfz10_2 := blk_frozen BK398.out 2) | (go_at_call 42; (with_reducible refine (impl_connected__impl_around.calls k _ _ l0_0  true _ ?side1 ?side2 A4.out).mono ?_); (case side1 => repeat (first | exact (Kd.C_below HR0_0.out HB.out) | (with_reducible refine Kd.C_alloc ?_ _) | (with_reducible refine Kd.C_drewN ?_ _) | (with_reducible refine Kd.C_drew ?_))); (case side2 => exact HC0_0.out); rintro e w11 ⟨rfl, hb⟩; have n0_ := aM (blk_below (g := gb398) (o := .cells #[.slice A0_0 l0_0.length c0_0, .int .i64 a0_1, .bool a0_2] 43 (0, 0)) (mB_ BK398.out) hb); have n1_ := aM (below_step (zs GE398.out) hb); clear BK398 HB; have BK398 := n0_; have HB := n1_; clear n0_ n1_; (try clear hb); (try clear hb2); (try clear hk); (try clear hi); have hcz12_0 : w11.cell? ⟨gb398, 0, none⟩ = some (.slice A0_0 l0_0.length c0_0) := (blk_cell BK398.out 0).trans rfl; have hcz12_1 : w11.cell? ⟨gb398, 1, none⟩ = some (.int .i64 a0_1) := (blk_cell BK398.out 1).trans rfl; have hcz12_2 : w11.cell? ⟨gb398, 2, none⟩ = some (.bool a0_2) := (blk_cell BK398.out 2).trans rfl; have hfz12_0 := blk_frozen BK398.out 0; have hfz12_1 := blk_frozen BK398.out 1; have hfz12_2 := blk_frozen BK398.out 2) | (go_at_call 44; (with_reducible refine (impl_within.calls a0_1 1 8 t401 _ A6.out).mono ?_); rintro e w' ⟨rfl, ⟨nd, rfl⟩⟩))
 go_ret
 exact ⟨zw, zs GE398.out⟩
def impl_Cell_80__impl_compareCells.l0 : Nat → List (S58) → List (S58) → List (S58) → Int → Int → Option (Int)
 | 0, _, _, _, _, _ => none
 | k + 1, x0, x1, x11, x12, x13 => if x13 < x12 then (if 0 ≤ x13 then (if x13 < (x11.length : Int) then (if x13 ≥ (x1.length : Int) then (some 1) else (if x13 < (x1.length : Int) then ((impl_compareCells.f ((rd_T58 x11 x13).f0) ((rd_T58 x11 x13).f1) ((rd_T58 x1 x13).f0) ((rd_T58 x1 x13).f1)).bind fun t406 => (if t406 = 0 then (impl_Cell_80__impl_compareCells.l0 k x0 x1 x11 x12 (wrap64 (x13 + 1))) else (some t406))) else (none))) else (none)) else (none)) else (if (x0.length : Int) < (x1.length : Int) then (some (-1)) else (some 0))
def impl_Cell_80__impl_compareCells.f (k : Nat) (l0 : List (S58)) (l1 : List (S58))  : Option (Int) := impl_Cell_80__impl_compareCells.l0 k l0 l1 l0 (l0.length : Int) 0
end Go.Proofs.YtfdfdifjkaaeoaaGreat.F
end
section
namespace Go.Proofs.YtfdfdifjkaaeoaaGreat.F
open Go.RowKit Go.Proofs.YtfdfdifjkaaeoaaGreatW.PrintWords Go.Proofs.YtfdfdifjkaaeoaaGreatW.PrintLast Go.Proofs.YtfdfdifjkaaeoaaGreatW.PrintMore
attribute [local go_sem] max2_int min2_int max_two min_two max_three min_three max_four min_four
set_option linter.unusedVariables false
set_option linter.unusedSimpArgs false
theorem impl_Cell_80__impl_compareCells.callsG (k : Nat) (A0 : Option Addr) (c0 : Nat) (l0 : List (S58)) (A1 : Option Addr) (c1 : Nat) (l1 : List (S58))  (r : Int) (w : World) (hr0 : Kd.C k58 w A0 l0.length l0) (hc0 : l0.length ≤ c0) (hr1 : Kd.C k58 w A1 l1.length l1) (hc1 : l1.length ≤ c1) (h : impl_Cell_80__impl_compareCells.f k l0 l1 = some r) :
  Calls Tryz.prog 80 #[.slice A0 l0.length c0, .slice A1 l1.length c1, .func (.func 58) #[] #[]] w fun e w' => e = .returned (.int .i64 r) ∧ BelG w.heap.size w w' := by
 have hu58 := Tryz.underlying58
 have HR0 := aM hr0
 have HC0 := aM hc0
 clear hr0 hc0
 have HR1 := aM hr1
 have HC1 := aM hc1
 clear hr1 hc1
 have HB := aM (BelG.refl w.heap.size w)
 have H : (impl_Cell_80__impl_compareCells.l0 k l0 l1 l0 (l0.length : Int) 0) = some r := h
 clear h
 have H' := aM H
 clear H
 go_enter Tryz.func80, Tryz.ntmps80
 go_wp2
 go_loopg [13] k (fun kq v13 w' => ∃ (x13_1 : Int), v13 = .int .i64 x13_1 ∧ Aside0 (impl_Cell_80__impl_compareCells.l0 kq l0 l1 l0 (l0.length : Int) x13_1 = some r) ∧ Aside0 (kq ≤ k) ∧ Aside0 (BelG w.heap.size w w'))
 case atStart => exact ⟨(0), zr, H', ⟨Nat.le_refl _⟩, ⟨zg⟩⟩
 case round =>
  clear H'
  try clear c1
  try clear p2
  obtain ⟨x13_1, rfl, HA, HK1, HB⟩ := hrel
  cases gk with
  | zero => exact absurd HA.out (by simp [impl_Cell_80__impl_compareCells.l0])
  | succ k1 =>
   have H := HA.out
   clear HA
   simp only [impl_Cell_80__impl_compareCells.l0] at H
   by_cases c4 : x13_1 < (l0.length : Int)
   rotate_left
   ·rw [if_neg c4] at H
    have c4b0 : decide (x13_1 < (l0.length : Int)) = false := decide_eq_false c4
    clear c4
    by_cases c27 : (l0.length : Int) < (l1.length : Int)
    ·rw [if_pos c27] at H
     have c27b0 : decide ((l0.length : Int) < (l1.length : Int)) = true := decide_eq_true c27
     have c27b1 : decide (l0.length < l1.length) = true := decide_eq_true (Int.ofNat_lt.mp c27)
     clear c27
     obtain rfl := Option.some.inj H
     go_wp2
     go_ret
     exact ⟨zw, zg⟩
    rw [if_neg c27] at H
    have c27b0 : decide ((l0.length : Int) < (l1.length : Int)) = false := decide_eq_false c27
    have c27b1 : decide (l0.length < l1.length) = false := decide_eq_false (fun h => c27 (Int.ofNat_lt.mpr h))
    clear c27
    obtain rfl := Option.some.inj H
    go_wp2
    go_ret
    exact ⟨zw, zg⟩
   rw [if_pos c4] at H
   have c4b0 : decide (x13_1 < (l0.length : Int)) = true := decide_eq_true c4
   clear c4
   by_cases c5 : 0 ≤ x13_1
   rotate_left
   ·rw [if_neg c5] at H
    exact absurd H (by simp)
   rw [if_pos c5] at H
   have c5b0 : decide (0 ≤ x13_1) = true := decide_eq_true c5
   clear c5
   by_cases c6 : x13_1 < (l0.length : Int)
   rotate_left
   ·rw [if_neg c6] at H
    exact absurd H (by simp)
   rw [if_pos c6] at H
   have c6b0 : decide (x13_1 < (l0.length : Int)) = true := decide_eq_true c6
   clear c6
   by_cases c7 : x13_1 ≥ (l1.length : Int)
   ·rw [if_pos c7] at H
    have c7b0 : decide ((l1.length : Int) ≤ x13_1) = true := decide_eq_true c7
    clear c7
    obtain rfl := Option.some.inj H
    have p402 : 0 ≤ (x13_1 : Int) := of_decide_eq_true za
    have q402 : x13_1 < (l0.length : Int) := of_decide_eq_true za
    obtain ⟨ad402, e402, hx402_0, hx402_1⟩ := at_T58 HR0.out x13_1 p402 q402
    cases e402
    replace hx402_0 := (HB.out.cell (World.block_lt_of_cell? w _ hx402_0)).trans hx402_0
    replace hx402_1 := (HB.out.cell (World.block_lt_of_cell? w _ hx402_1)).trans hx402_1
    replace p402 := eq_true p402
    replace q402 := eq_true q402
    go_wp2_with (first | ((with_reducible refine gate_dst (N := 8) rfl ?_); refine box_eventD ?hg (N := 8) ?hd (cs := #[.int .i64 0, .int .i64 0]) (t := 58) ?hr ?_; (case hd => rfl); (case hg => rfl); (case hr => first | (go_simp; done) | (go_simp; rfl)); intro gb403 hg w8 hbox hb; have n0_ := aM (belG_step zg hb); have n1_ := aM (hbox); have n2_ := aM ((zi : w.heap.size ≤ gb403)); have n3_ := aM ((zi : w.heap.size ≤ gb403)); clear HB; have HB := n0_; have BK403 := n1_; have GW403 := n2_; have GE403 := n3_; clear n0_ n1_ n2_ n3_ hb hbox hg; have hcz9_0 : w8.cell? ⟨gb403, 0, none⟩ = some (.int .i64 0) := (blk_cell BK403.out 0).trans rfl; have hcz9_1 : w8.cell? ⟨gb403, 1, none⟩ = some (.int .i64 0) := (blk_cell BK403.out 1).trans rfl; have hfz9_0 := blk_frozen BK403.out 0; have hfz9_1 := blk_frozen BK403.out 1))
    go_ret
    exact ⟨zw, zh GE403.out⟩
   rw [if_neg c7] at H
   have c7b0 : decide ((l1.length : Int) ≤ x13_1) = false := decide_eq_false c7
   clear c7
   by_cases c10 : x13_1 < (l1.length : Int)
   rotate_left
   ·rw [if_neg c10] at H
    exact absurd H (by simp)
   rw [if_pos c10] at H
   have c10b0 : decide (x13_1 < (l1.length : Int)) = true := decide_eq_true c10
   clear c10
   replace H := Option.bind_eq_some_iff.mp H
   obtain ⟨t406, A110, H⟩ := H
   replace H : (if t406 = 0 then (impl_Cell_80__impl_compareCells.l0 k1 l0 l1 l0 (l0.length : Int) (wrap64 (x13_1 + 1))) else (some t406)) = some r := H
   have A11 := aM A110
   clear A110
   by_cases c12 : t406 = 0
   rotate_left
   ·rw [if_neg c12] at H
    have c12b0 : (t406 == 0) = false := beq_eq_false_iff_ne.mpr c12
    have c12b1 : (t406 != 0) = true := bne_iff_ne.mpr c12
    obtain rfl := Option.some.inj H
    have p402 : 0 ≤ (x13_1 : Int) := of_decide_eq_true za
    have q402 : x13_1 < (l0.length : Int) := of_decide_eq_true za
    obtain ⟨ad402, e402, hx402_0, hx402_1⟩ := at_T58 HR0.out x13_1 p402 q402
    cases e402
    replace hx402_0 := (HB.out.cell (World.block_lt_of_cell? w _ hx402_0)).trans hx402_0
    replace hx402_1 := (HB.out.cell (World.block_lt_of_cell? w _ hx402_1)).trans hx402_1
    replace p402 := eq_true p402
    replace q402 := eq_true q402
    go_wp2_with (first | ((with_reducible refine gate_dst (N := 8) rfl ?_); refine box_eventD ?hg (N := 8) ?hd (cs := #[.int .i64 0, .int .i64 0]) (t := 58) ?hr ?_; (case hd => rfl); (case hg => rfl); (case hr => first | (go_simp; done) | (go_simp; rfl)); intro gb403 hg w20 hbox hb; have n0_ := aM (belG_step zg hb); have n1_ := aM (hbox); have n2_ := aM ((zi : w.heap.size ≤ gb403)); have n3_ := aM ((zi : w.heap.size ≤ gb403)); clear HB; have HB := n0_; have BK403 := n1_; have GW403 := n2_; have GE403 := n3_; clear n0_ n1_ n2_ n3_ hb hbox hg; have hcz21_0 : w20.cell? ⟨gb403, 0, none⟩ = some (.int .i64 0) := (blk_cell BK403.out 0).trans rfl; have hcz21_1 : w20.cell? ⟨gb403, 1, none⟩ = some (.int .i64 0) := (blk_cell BK403.out 1).trans rfl; have hfz21_0 := blk_frozen BK403.out 0; have hfz21_1 := blk_frozen BK403.out 1; have p404 : 0 ≤ (x13_1 : Int) := of_decide_eq_true za; have q404 : x13_1 < (l1.length : Int) := of_decide_eq_true za; obtain ⟨ad404, e404, hx404_0, hx404_1⟩ := at_T58 HR1.out x13_1 p404 q404; cases e404; have hn404_0 : ad404.block ≠ gb403 := Nat.ne_of_lt (Nat.lt_of_lt_of_le (by have := World.block_lt_of_cell? _ _ hx404_0; first | rwa [add_block] at this | exact this) GW403.out); have hn404_1 : ad404.block ≠ gb403 := Nat.ne_of_lt (Nat.lt_of_lt_of_le (by have := World.block_lt_of_cell? _ _ hx404_0; first | rwa [add_block] at this | exact this) GW403.out); replace hx404_0 := (HB.out.cell (World.block_lt_of_cell? w _ hx404_0)).trans hx404_0; replace hx404_1 := (HB.out.cell (World.block_lt_of_cell? w _ hx404_1)).trans hx404_1; replace hx404_0 := (cell_far (p := ⟨gb403, 0, none⟩) (by first | (rw [add_block]; exact hn404_0) | (show (Addr.add _ _).block ≠ _; rw [add_block]; exact hn404_0) | exact hn404_0) (.int .i64 ((rd_T58 l0 x13_1).f0))).trans hx404_0; replace hx404_1 := (cell_far (p := ⟨gb403, 0, none⟩) (by first | (rw [add_block]; exact hn404_0) | (show (Addr.add _ _).block ≠ _; rw [add_block]; exact hn404_0) | exact hn404_0) (.int .i64 ((rd_T58 l0 x13_1).f0))).trans hx404_1; replace hx404_0 := (cell_far (p := ⟨gb403, 1, none⟩) (by first | (rw [add_block]; exact hn404_1) | (show (Addr.add _ _).block ≠ _; rw [add_block]; exact hn404_1) | exact hn404_1) (.int .i64 ((rd_T58 l0 x13_1).f1))).trans hx404_0; replace hx404_1 := (cell_far (p := ⟨gb403, 1, none⟩) (by first | (rw [add_block]; exact hn404_1) | (show (Addr.add _ _).block ≠ _; rw [add_block]; exact hn404_1) | exact hn404_1) (.int .i64 ((rd_T58 l0 x13_1).f1))).trans hx404_1; clear hn404_0 hn404_1; replace p404 := eq_true p404; replace q404 := eq_true q404) | ((with_reducible refine gate_dst (N := 9) rfl ?_); refine box_eventD ?hg (N := 9) ?hd (cs := #[.int .i64 0, .int .i64 0]) (t := 58) ?hr ?_; (case hd => rfl); (case hg => rfl); (case hr => first | (go_simp; done) | (go_simp; rfl)); intro gb405 hg w22 hbox hb; have n0_ := aM (blk_belG (g := gb403) (o := .cells #[.int .i64 ((rd_T58 l0 x13_1).f0), .int .i64 ((rd_T58 l0 x13_1).f1)] 58 (0, 0)) (by (with_reducible repeat (first | refine blk_drewN ?_ _ | refine blk_drew ?_ | refine blk_alloc ?_ _)); refine blk_put (cs := #[.int .i64 ((rd_T58 l0 x13_1).f0), .int .i64 0]) ?_ 1 _ rfl; (with_reducible repeat (first | refine blk_drewN ?_ _ | refine blk_drew ?_ | refine blk_alloc ?_ _)); refine blk_put (cs := #[.int .i64 0, .int .i64 0]) ?_ 0 _ rfl; (with_reducible repeat (first | refine blk_drewN ?_ _ | refine blk_drew ?_ | refine blk_alloc ?_ _)); exact BK403.out) hb); have n1_ := aM (belG_step (zh GE403.out) hb); have n2_ := aM (hbox); have n3_ := aM ((zj GE403.out : w.heap.size ≤ gb405)); have n4_ := aM ((zj GE403.out : w.heap.size ≤ gb405)); have n5_ := aM ((by rw [hg]; exact Nat.ne_of_lt (blk_lt (g := gb403) (o := .cells #[.int .i64 ((rd_T58 l0 x13_1).f0), .int .i64 ((rd_T58 l0 x13_1).f1)] 58 (0, 0)) (by (with_reducible repeat (first | refine blk_drewN ?_ _ | refine blk_drew ?_ | refine blk_alloc ?_ _)); refine blk_put (cs := #[.int .i64 ((rd_T58 l0 x13_1).f0), .int .i64 0]) ?_ 1 _ rfl; (with_reducible repeat (first | refine blk_drewN ?_ _ | refine blk_drew ?_ | refine blk_alloc ?_ _)); refine blk_put (cs := #[.int .i64 0, .int .i64 0]) ?_ 0 _ rfl; (with_reducible repeat (first | refine blk_drewN ?_ _ | refine blk_drew ?_ | refine blk_alloc ?_ _)); exact BK403.out)) : gb403 ≠ gb405)); have n6_ := aM ((by rw [hg]; exact Nat.ne_of_gt (blk_lt (g := gb403) (o := .cells #[.int .i64 ((rd_T58 l0 x13_1).f0), .int .i64 ((rd_T58 l0 x13_1).f1)] 58 (0, 0)) (by (with_reducible repeat (first | refine blk_drewN ?_ _ | refine blk_drew ?_ | refine blk_alloc ?_ _)); refine blk_put (cs := #[.int .i64 ((rd_T58 l0 x13_1).f0), .int .i64 0]) ?_ 1 _ rfl; (with_reducible repeat (first | refine blk_drewN ?_ _ | refine blk_drew ?_ | refine blk_alloc ?_ _)); refine blk_put (cs := #[.int .i64 0, .int .i64 0]) ?_ 0 _ rfl; (with_reducible repeat (first | refine blk_drewN ?_ _ | refine blk_drew ?_ | refine blk_alloc ?_ _)); exact BK403.out)) : gb405 ≠ gb403)); clear BK403 HB; have BK403 := n0_; have HB := n1_; have BK405 := n2_; have GW405 := n3_; have GE405 := n4_; have NB403_405 := n5_; have NB405_403 := n6_; clear n0_ n1_ n2_ n3_ n4_ n5_ n6_ hb hbox hg; have hnb23 := NB405_403.out; have hnc23 := NB403_405.out; have hcz24_0 : w22.cell? ⟨gb405, 0, none⟩ = some (.int .i64 0) := (blk_cell BK405.out 0).trans rfl; have hcz24_1 : w22.cell? ⟨gb405, 1, none⟩ = some (.int .i64 0) := (blk_cell BK405.out 1).trans rfl; have hfz24_0 := blk_frozen BK405.out 0; have hfz24_1 := blk_frozen BK405.out 1; have hcz25_0 : w22.cell? ⟨gb403, 0, none⟩ = some (.int .i64 ((rd_T58 l0 x13_1).f0)) := (blk_cell BK403.out 0).trans rfl; have hcz25_1 : w22.cell? ⟨gb403, 1, none⟩ = some (.int .i64 ((rd_T58 l0 x13_1).f1)) := (blk_cell BK403.out 1).trans rfl; have hfz25_0 := blk_frozen BK403.out 0; have hfz25_1 := blk_frozen BK403.out 1) | (go_at_call 58; (with_reducible refine (impl_compareCells.callsG ((rd_T58 l0 x13_1).f0) ((rd_T58 l0 x13_1).f1) ((rd_T58 l1 x13_1).f0) ((rd_T58 l1 x13_1).f1) t406 _ A11.out).mono ?_); rintro e w26 ⟨rfl, hb⟩; have n0_ := aM (blk_belG (g := gb403) (o := .cells #[.int .i64 ((rd_T58 l0 x13_1).f0), .int .i64 ((rd_T58 l0 x13_1).f1)] 58 (0, 0)) (by (with_reducible repeat (first | refine blk_drewN ?_ _ | refine blk_drew ?_ | refine blk_alloc ?_ _)); refine blk_far ?_ NB403_405.out _; (with_reducible repeat (first | refine blk_drewN ?_ _ | refine blk_drew ?_ | refine blk_alloc ?_ _)); refine blk_far ?_ NB403_405.out _; (with_reducible repeat (first | refine blk_drewN ?_ _ | refine blk_drew ?_ | refine blk_alloc ?_ _)); exact BK403.out) hb); have n1_ := aM (blk_belG (g := gb405) (o := .cells #[.int .i64 ((rd_T58 l1 x13_1).f0), .int .i64 ((rd_T58 l1 x13_1).f1)] 58 (0, 0)) (by (with_reducible repeat (first | refine blk_drewN ?_ _ | refine blk_drew ?_ | refine blk_alloc ?_ _)); refine blk_put (cs := #[.int .i64 ((rd_T58 l1 x13_1).f0), .int .i64 0]) ?_ 1 _ rfl; (with_reducible repeat (first | refine blk_drewN ?_ _ | refine blk_drew ?_ | refine blk_alloc ?_ _)); refine blk_put (cs := #[.int .i64 0, .int .i64 0]) ?_ 0 _ rfl; (with_reducible repeat (first | refine blk_drewN ?_ _ | refine blk_drew ?_ | refine blk_alloc ?_ _)); exact BK405.out) hb); have n2_ := aM (belG_step (by repeat (first | (with_reducible first | exact HB.out | apply belG_alloc | apply pw_belG_drewN | apply belG_drew1 | refine belG_set ?_ GE403.out | refine belG_set ?_ GE405.out) | exact HB.out)) hb); clear BK403 BK405 HB; have BK403 := n0_; have BK405 := n1_; have HB := n2_; clear n0_ n1_ n2_; (try clear hb); (try clear hb2); (try clear hk); (try clear hi)))
    go_ret
    exact ⟨zw, by repeat (first | (with_reducible first | exact HB.out | apply belG_alloc | apply pw_belG_drewN | apply belG_drew1 | refine belG_set ?_ GE403.out | refine belG_set ?_ GE405.out) | exact HB.out)⟩
   rw [if_pos c12] at H
   have c12b0 : (t406 == 0) = true := beq_iff_eq.mpr c12
   have c12b1 : (t406 != 0) = false := bne_eq_false_iff_eq.mpr c12
   clear c12
   have H' := aM H
   clear H
   have p402 : 0 ≤ (x13_1 : Int) := of_decide_eq_true za
   have q402 : x13_1 < (l0.length : Int) := of_decide_eq_true za
   obtain ⟨ad402, e402, hx402_0, hx402_1⟩ := at_T58 HR0.out x13_1 p402 q402
   cases e402
   replace hx402_0 := (HB.out.cell (World.block_lt_of_cell? w _ hx402_0)).trans hx402_0
   replace hx402_1 := (HB.out.cell (World.block_lt_of_cell? w _ hx402_1)).trans hx402_1
   replace p402 := eq_true p402
   replace q402 := eq_true q402
   go_wp2_with (first | ((with_reducible refine gate_dst (N := 8) rfl ?_); refine box_eventD ?hg (N := 8) ?hd (cs := #[.int .i64 0, .int .i64 0]) (t := 58) ?hr ?_; (case hd => rfl); (case hg => rfl); (case hr => first | (go_simp; done) | (go_simp; rfl)); intro gb403 hg w13 hbox hb; have n0_ := aM (belG_step zg hb); have n1_ := aM (hbox); have n2_ := aM ((zi : w.heap.size ≤ gb403)); have n3_ := aM ((zi : w.heap.size ≤ gb403)); clear HB; have HB := n0_; have BK403 := n1_; have GW403 := n2_; have GE403 := n3_; clear n0_ n1_ n2_ n3_ hb hbox hg; have hcz14_0 : w13.cell? ⟨gb403, 0, none⟩ = some (.int .i64 0) := (blk_cell BK403.out 0).trans rfl; have hcz14_1 : w13.cell? ⟨gb403, 1, none⟩ = some (.int .i64 0) := (blk_cell BK403.out 1).trans rfl; have hfz14_0 := blk_frozen BK403.out 0; have hfz14_1 := blk_frozen BK403.out 1; have p404 : 0 ≤ (x13_1 : Int) := of_decide_eq_true za; have q404 : x13_1 < (l1.length : Int) := of_decide_eq_true za; obtain ⟨ad404, e404, hx404_0, hx404_1⟩ := at_T58 HR1.out x13_1 p404 q404; cases e404; have hn404_0 : ad404.block ≠ gb403 := Nat.ne_of_lt (Nat.lt_of_lt_of_le (by have := World.block_lt_of_cell? _ _ hx404_0; first | rwa [add_block] at this | exact this) GW403.out); have hn404_1 : ad404.block ≠ gb403 := Nat.ne_of_lt (Nat.lt_of_lt_of_le (by have := World.block_lt_of_cell? _ _ hx404_0; first | rwa [add_block] at this | exact this) GW403.out); replace hx404_0 := (HB.out.cell (World.block_lt_of_cell? w _ hx404_0)).trans hx404_0; replace hx404_1 := (HB.out.cell (World.block_lt_of_cell? w _ hx404_1)).trans hx404_1; replace hx404_0 := (cell_far (p := ⟨gb403, 0, none⟩) (by first | (rw [add_block]; exact hn404_0) | (show (Addr.add _ _).block ≠ _; rw [add_block]; exact hn404_0) | exact hn404_0) (.int .i64 ((rd_T58 l0 x13_1).f0))).trans hx404_0; replace hx404_1 := (cell_far (p := ⟨gb403, 0, none⟩) (by first | (rw [add_block]; exact hn404_0) | (show (Addr.add _ _).block ≠ _; rw [add_block]; exact hn404_0) | exact hn404_0) (.int .i64 ((rd_T58 l0 x13_1).f0))).trans hx404_1; replace hx404_0 := (cell_far (p := ⟨gb403, 1, none⟩) (by first | (rw [add_block]; exact hn404_1) | (show (Addr.add _ _).block ≠ _; rw [add_block]; exact hn404_1) | exact hn404_1) (.int .i64 ((rd_T58 l0 x13_1).f1))).trans hx404_0; replace hx404_1 := (cell_far (p := ⟨gb403, 1, none⟩) (by first | (rw [add_block]; exact hn404_1) | (show (Addr.add _ _).block ≠ _; rw [add_block]; exact hn404_1) | exact hn404_1) (.int .i64 ((rd_T58 l0 x13_1).f1))).trans hx404_1; clear hn404_0 hn404_1; replace p404 := eq_true p404; replace q404 := eq_true q404) | ((with_reducible refine gate_dst (N := 9) rfl ?_); refine box_eventD ?hg (N := 9) ?hd (cs := #[.int .i64 0, .int .i64 0]) (t := 58) ?hr ?_; (case hd => rfl); (case hg => rfl); (case hr => first | (go_simp; done) | (go_simp; rfl)); intro gb405 hg w15 hbox hb; have n0_ := aM (blk_belG (g := gb403) (o := .cells #[.int .i64 ((rd_T58 l0 x13_1).f0), .int .i64 ((rd_T58 l0 x13_1).f1)] 58 (0, 0)) (by (with_reducible repeat (first | refine blk_drewN ?_ _ | refine blk_drew ?_ | refine blk_alloc ?_ _)); refine blk_put (cs := #[.int .i64 ((rd_T58 l0 x13_1).f0), .int .i64 0]) ?_ 1 _ rfl; (with_reducible repeat (first | refine blk_drewN ?_ _ | refine blk_drew ?_ | refine blk_alloc ?_ _)); refine blk_put (cs := #[.int .i64 0, .int .i64 0]) ?_ 0 _ rfl; (with_reducible repeat (first | refine blk_drewN ?_ _ | refine blk_drew ?_ | refine blk_alloc ?_ _)); exact BK403.out) hb); have n1_ := aM (belG_step (zh GE403.out) hb); have n2_ := aM (hbox); have n3_ := aM ((zj GE403.out : w.heap.size ≤ gb405)); have n4_ := aM ((zj GE403.out : w.heap.size ≤ gb405)); have n5_ := aM ((by rw [hg]; exact Nat.ne_of_lt (blk_lt (g := gb403) (o := .cells #[.int .i64 ((rd_T58 l0 x13_1).f0), .int .i64 ((rd_T58 l0 x13_1).f1)] 58 (0, 0)) (by (with_reducible repeat (first | refine blk_drewN ?_ _ | refine blk_drew ?_ | refine blk_alloc ?_ _)); refine blk_put (cs := #[.int .i64 ((rd_T58 l0 x13_1).f0), .int .i64 0]) ?_ 1 _ rfl; (with_reducible repeat (first | refine blk_drewN ?_ _ | refine blk_drew ?_ | refine blk_alloc ?_ _)); refine blk_put (cs := #[.int .i64 0, .int .i64 0]) ?_ 0 _ rfl; (with_reducible repeat (first | refine blk_drewN ?_ _ | refine blk_drew ?_ | refine blk_alloc ?_ _)); exact BK403.out)) : gb403 ≠ gb405)); have n6_ := aM ((by rw [hg]; exact Nat.ne_of_gt (blk_lt (g := gb403) (o := .cells #[.int .i64 ((rd_T58 l0 x13_1).f0), .int .i64 ((rd_T58 l0 x13_1).f1)] 58 (0, 0)) (by (with_reducible repeat (first | refine blk_drewN ?_ _ | refine blk_drew ?_ | refine blk_alloc ?_ _)); refine blk_put (cs := #[.int .i64 ((rd_T58 l0 x13_1).f0), .int .i64 0]) ?_ 1 _ rfl; (with_reducible repeat (first | refine blk_drewN ?_ _ | refine blk_drew ?_ | refine blk_alloc ?_ _)); refine blk_put (cs := #[.int .i64 0, .int .i64 0]) ?_ 0 _ rfl; (with_reducible repeat (first | refine blk_drewN ?_ _ | refine blk_drew ?_ | refine blk_alloc ?_ _)); exact BK403.out)) : gb405 ≠ gb403)); clear BK403 HB; have BK403 := n0_; have HB := n1_; have BK405 := n2_; have GW405 := n3_; have GE405 := n4_; have NB403_405 := n5_; have NB405_403 := n6_; clear n0_ n1_ n2_ n3_ n4_ n5_ n6_ hb hbox hg; have hnb16 := NB405_403.out; have hnc16 := NB403_405.out; have hcz17_0 : w15.cell? ⟨gb405, 0, none⟩ = some (.int .i64 0) := (blk_cell BK405.out 0).trans rfl; have hcz17_1 : w15.cell? ⟨gb405, 1, none⟩ = some (.int .i64 0) := (blk_cell BK405.out 1).trans rfl; have hfz17_0 := blk_frozen BK405.out 0; have hfz17_1 := blk_frozen BK405.out 1; have hcz18_0 : w15.cell? ⟨gb403, 0, none⟩ = some (.int .i64 ((rd_T58 l0 x13_1).f0)) := (blk_cell BK403.out 0).trans rfl; have hcz18_1 : w15.cell? ⟨gb403, 1, none⟩ = some (.int .i64 ((rd_T58 l0 x13_1).f1)) := (blk_cell BK403.out 1).trans rfl; have hfz18_0 := blk_frozen BK403.out 0; have hfz18_1 := blk_frozen BK403.out 1) | (go_at_call 58; (with_reducible refine (impl_compareCells.callsG ((rd_T58 l0 x13_1).f0) ((rd_T58 l0 x13_1).f1) ((rd_T58 l1 x13_1).f0) ((rd_T58 l1 x13_1).f1) t406 _ A11.out).mono ?_); rintro e w19 ⟨rfl, hb⟩; have n0_ := aM (blk_belG (g := gb403) (o := .cells #[.int .i64 ((rd_T58 l0 x13_1).f0), .int .i64 ((rd_T58 l0 x13_1).f1)] 58 (0, 0)) (by (with_reducible repeat (first | refine blk_drewN ?_ _ | refine blk_drew ?_ | refine blk_alloc ?_ _)); refine blk_far ?_ NB403_405.out _; (with_reducible repeat (first | refine blk_drewN ?_ _ | refine blk_drew ?_ | refine blk_alloc ?_ _)); refine blk_far ?_ NB403_405.out _; (with_reducible repeat (first | refine blk_drewN ?_ _ | refine blk_drew ?_ | refine blk_alloc ?_ _)); exact BK403.out) hb); have n1_ := aM (blk_belG (g := gb405) (o := .cells #[.int .i64 ((rd_T58 l1 x13_1).f0), .int .i64 ((rd_T58 l1 x13_1).f1)] 58 (0, 0)) (by (with_reducible repeat (first | refine blk_drewN ?_ _ | refine blk_drew ?_ | refine blk_alloc ?_ _)); refine blk_put (cs := #[.int .i64 ((rd_T58 l1 x13_1).f0), .int .i64 0]) ?_ 1 _ rfl; (with_reducible repeat (first | refine blk_drewN ?_ _ | refine blk_drew ?_ | refine blk_alloc ?_ _)); refine blk_put (cs := #[.int .i64 0, .int .i64 0]) ?_ 0 _ rfl; (with_reducible repeat (first | refine blk_drewN ?_ _ | refine blk_drew ?_ | refine blk_alloc ?_ _)); exact BK405.out) hb); have n2_ := aM (belG_step (by repeat (first | (with_reducible first | exact HB.out | apply belG_alloc | apply pw_belG_drewN | apply belG_drew1 | refine belG_set ?_ GE403.out | refine belG_set ?_ GE405.out) | exact HB.out)) hb); clear BK403 BK405 HB; have BK403 := n0_; have BK405 := n1_; have HB := n2_; clear n0_ n1_ n2_; (try clear hb); (try clear hb2); (try clear hk); (try clear hi)))
   go_roundg k1
   case measure => have := HK1.out; omega
   case rel => exact ⟨(wrap64 (x13_1 + 1)), zr, H', ⟨by have := HK1.out; omega⟩, ⟨by repeat (first | (with_reducible first | exact HB.out | apply belG_alloc | apply pw_belG_drewN | apply belG_drew1 | refine belG_set ?_ GE403.out | refine belG_set ?_ GE405.out) | exact HB.out)⟩⟩
def impl_compareShapes.f (k : Nat) (l0 : List (S58)) (l1 : List (S58)) : Option (Int) := if (l0.length : Int) = (l1.length : Int) then ((impl_Cell_80__impl_compareCells.f k l0 l1).bind fun t407 => (some t407)) else (if (l0.length : Int) < (l1.length : Int) then (some (-1)) else (some 1))
theorem impl_compareShapes.callsG (k : Nat) (A0 : Option Addr) (c0 : Nat) (l0 : List (S58)) (A1 : Option Addr) (c1 : Nat) (l1 : List (S58)) (r : Int) (w : World) (hr0 : Kd.C k58 w A0 l0.length l0) (hc0 : l0.length ≤ c0) (hr1 : Kd.C k58 w A1 l1.length l1) (hc1 : l1.length ≤ c1) (h : impl_compareShapes.f k l0 l1 = some r) :
  Calls Tryz.prog 70 #[.slice A0 l0.length c0, .slice A1 l1.length c1] w fun e w' => e = .returned (.int .i64 r) ∧ BelG w.heap.size w w' := by
 have HR0 := aM hr0
 have HC0 := aM hc0
 clear hr0 hc0
 have HR1 := aM hr1
 have HC1 := aM hc1
 clear hr1 hc1
 have HB := aM (BelG.refl w.heap.size w)
 have H : (if (l0.length : Int) = (l1.length : Int) then ((impl_Cell_80__impl_compareCells.f k l0 l1).bind fun t407 => (some t407)) else (if (l0.length : Int) < (l1.length : Int) then (some (-1)) else (some 1))) = some r := h
 clear h
 by_cases c3 : (l0.length : Int) = (l1.length : Int)
 ·rw [if_pos c3] at H
  have c3b0 : ((l0.length : Int) == (l1.length : Int)) = true := beq_iff_eq.mpr c3
  have c3b1 : ((l0.length : Int) != (l1.length : Int)) = false := bne_eq_false_iff_eq.mpr c3
  have c3b2 : (l0.length == l1.length) = true := by first | simpa using c3 | (simp at c3 ⊢; omega)
  clear c3
  replace H := Option.bind_eq_some_iff.mp H
  obtain ⟨t407, A40, H⟩ := H
  replace H : (some t407) = some r := H
  have A4 := aM A40
  clear A40
  obtain rfl := Option.some.inj H
  go_enter Tryz.func70, Tryz.ntmps70
  go_wp2_with (first | ((with_reducible refine gate_callee (f := 80) rfl ?_); refine goesL_ (some 17) rfl rfl Tryz.func80 (by kernel_rfl) rfl #[.slice A0 l0.length c0, .slice A1 l1.length c1, .func (.func 58) #[] #[]] rfl zm ?_; (with_reducible refine (impl_Cell_80__impl_compareCells.callsG k _ _ l0 _ _ l1  t407 _ ?side1 ?side2 ?side3 ?side4 A4.out).mono ?_); (case side1 => repeat (first | exact HR0.out | (with_reducible refine Kd.C_alloc ?_ _) | (with_reducible refine Kd.C_drewN ?_ _) | (with_reducible refine Kd.C_drew ?_))); (case side2 => exact HC0.out); (case side3 => repeat (first | exact HR1.out | (with_reducible refine Kd.C_alloc ?_ _) | (with_reducible refine Kd.C_drewN ?_ _) | (with_reducible refine Kd.C_drew ?_))); (case side4 => exact HC1.out); rintro e w5 ⟨rfl, hb⟩; refine ⟨_, rfl, ?_⟩; have n0_ := aM (belG_step zg hb); clear HB; have HB := n0_; clear n0_; (try clear hb); (try clear hb2); (try clear hk); (try clear hi)))
  go_ret
  exact ⟨zw, zg⟩
 rw [if_neg c3] at H
 have c3b0 : ((l0.length : Int) == (l1.length : Int)) = false := beq_eq_false_iff_ne.mpr c3
 have c3b1 : ((l0.length : Int) != (l1.length : Int)) = true := bne_iff_ne.mpr c3
 have c3b2 : (l0.length == l1.length) = false := by first | simpa using c3 | (simp at c3 ⊢; omega)
 by_cases c6 : (l0.length : Int) < (l1.length : Int)
 ·rw [if_pos c6] at H
  have c6b0 : decide ((l0.length : Int) < (l1.length : Int)) = true := decide_eq_true c6
  have c6b1 : decide (l0.length < l1.length) = true := decide_eq_true (Int.ofNat_lt.mp c6)
  clear c6
  obtain rfl := Option.some.inj H
  go_enter Tryz.func70, Tryz.ntmps70
  go_wp2
  go_ret
  exact ⟨zw, zg⟩
 rw [if_neg c6] at H
 have c6b0 : decide ((l0.length : Int) < (l1.length : Int)) = false := decide_eq_false c6
 have c6b1 : decide (l0.length < l1.length) = false := decide_eq_false (fun h => c6 (Int.ofNat_lt.mpr h))
 clear c6
 obtain rfl := Option.some.inj H
 go_enter Tryz.func70, Tryz.ntmps70
 go_wp2
 go_ret
 exact ⟨zw, zg⟩
def sortC_lays_ren : Go.Shelf.Ren := ⟨fun | 6 => 98 | 15 => 79 | 14 => 104 | 28 => 94 | 29 => 95 | 20 => 106 | 21 => 107 | 22 => 108 | 23 => 109 | 24 => 110 | 25 => 111 | 26 => 112 | 27 => 113 | 46 => 114 | 47 => 100 | 48 => 101 | 49 => 115 | 50 => 116 | 57 => 117 | n => n, fun | 22 => 28 | 24 => 58 | 25 => 73 | 3 => 3 | 39 => 92 | 0 => 0 | 53 => 104 | 55 => 106 | 4 => 4 | 46 => 98 | 45 => 97 | 50 => 84 | 5 => 5 | 9 => 9 | 66 => 108 | 70 => 112 | 76 => 115 | 77 => 116 | n => n, fun n => n⟩
theorem sortC_lays : SlLaysF0.n6 Tryz.prog sortC_lays_ren where
  mixed := by kernel_rfl
  f6 := ⟨Tryz.f98.name, by kernel_rfl, Tryz.func98.trans (congrArg some (by kernel_rfl))⟩
  f14 := ⟨Tryz.f104.name, by kernel_rfl, Tryz.func104.trans (congrArg some (by kernel_rfl))⟩
  f15 := Tryz.func79.trans (congrArg some (by kernel_rfl))
  f20 := ⟨Tryz.f106.name, by kernel_rfl, Tryz.func106.trans (congrArg some (by kernel_rfl))⟩
  f21 := ⟨Tryz.f107.name, by kernel_rfl, Tryz.func107.trans (congrArg some (by kernel_rfl))⟩
  f22 := ⟨Tryz.f108.name, by kernel_rfl, Tryz.func108.trans (congrArg some (by kernel_rfl))⟩
  f23 := ⟨Tryz.f109.name, by kernel_rfl, Tryz.func109.trans (congrArg some (by kernel_rfl))⟩
  f24 := ⟨Tryz.f110.name, by kernel_rfl, Tryz.func110.trans (congrArg some (by kernel_rfl))⟩
  f25 := ⟨Tryz.f111.name, by kernel_rfl, Tryz.func111.trans (congrArg some (by kernel_rfl))⟩
  f26 := ⟨Tryz.f112.name, by kernel_rfl, Tryz.func112.trans (congrArg some (by kernel_rfl))⟩
  f27 := ⟨Tryz.f113.name, by kernel_rfl, Tryz.func113.trans (congrArg some (by kernel_rfl))⟩
  f28 := Tryz.func94.trans (congrArg some (by kernel_rfl))
  f29 := Tryz.func95.trans (congrArg some (by kernel_rfl))
  f46 := ⟨Tryz.f114.name, by kernel_rfl, Tryz.func114.trans (congrArg some (by kernel_rfl))⟩
  f47 := Tryz.func100.trans (congrArg some (by kernel_rfl))
  f48 := Tryz.func101.trans (congrArg some (by kernel_rfl))
  f49 := ⟨Tryz.f115.name, by kernel_rfl, Tryz.func115.trans (congrArg some (by kernel_rfl))⟩
  f50 := ⟨Tryz.f116.name, by kernel_rfl, Tryz.func116.trans (congrArg some (by kernel_rfl))⟩
  f57 := ⟨Tryz.f117.name, by kernel_rfl, Tryz.func117.trans (congrArg some (by kernel_rfl))⟩
  t0 := Tryz.underlying0
  a0 := Tryz.isAgg0
  z0 := Tryz.sizeOf0
  v0 := Tryz.zeroValue0
  t3 := Tryz.underlying3
  a3 := Tryz.isAgg3
  z3 := Tryz.sizeOf3
  v3 := Tryz.zeroValue3
  t4 := Tryz.underlying4
  a4 := Tryz.isAgg4
  z4 := Tryz.sizeOf4
  v4 := Tryz.zeroValue4
  t5 := Tryz.underlying5
  a5 := Tryz.isAgg5
  z5 := Tryz.sizeOf5
  v5 := Tryz.zeroValue5
  t9 := Tryz.underlying9
  a9 := Tryz.isAgg9
  z9 := Tryz.sizeOf9
  v9 := Tryz.zeroValue9
  t22 := Tryz.underlying28
  a22 := Tryz.isAgg28
  z22 := Tryz.sizeOf28
  v22 := Tryz.zeroValue28
  t25 := Tryz.underlying73
  a25 := Tryz.isAgg73
  z25 := Tryz.sizeOf73
  v25 := Tryz.zeroValue73
  t39 := Tryz.underlying92
  a39 := Tryz.isAgg92
  z39 := Tryz.sizeOf92
  v39 := Tryz.zeroValue92
  t45 := Tryz.underlying97
  a45 := Tryz.isAgg97
  z45 := Tryz.sizeOf97
  v45 := Tryz.zeroValue97
  t46 := Tryz.underlying98
  a46 := Tryz.isAgg98
  z46 := Tryz.sizeOf98
  v46 := Tryz.zeroValue98
  t50 := Tryz.underlying84
  a50 := Tryz.isAgg84
  z50 := Tryz.sizeOf84
  v50 := Tryz.zeroValue84
  t53 := Tryz.underlying104
  a53 := Tryz.isAgg104
  z53 := Tryz.sizeOf104
  v53 := Tryz.zeroValue104
  t55 := Tryz.underlying106
  a55 := Tryz.isAgg106
  z55 := Tryz.sizeOf106
  v55 := Tryz.zeroValue106
  t66 := Tryz.underlying108
  a66 := Tryz.isAgg108
  z66 := Tryz.sizeOf108
  v66 := Tryz.zeroValue108
  t70 := Tryz.underlying112
  a70 := Tryz.isAgg112
  z70 := Tryz.sizeOf112
  v70 := Tryz.zeroValue112
  t76 := Tryz.underlying115
  a76 := Tryz.isAgg115
  z76 := Tryz.sizeOf115
  v76 := Tryz.zeroValue115
  t77 := Tryz.underlying116
  a77 := Tryz.isAgg116
  z77 := Tryz.sizeOf116
  v77 := Tryz.zeroValue116
def cI (a b : Int) : Int := if a < b then -1 else if a > b then 1 else 0
def cmpV (x y : S58) : Int := if cI x.f1 y.f1 = 0 then cI x.f0 y.f0 else cI x.f1 y.f1
open Go.Sort
instance instSortC : Inhabited S58 := ⟨z58⟩
abbrev encC (x : S58) : List Value := [.int .i64 x.f0, .int .i64 x.f1]
theorem putRow_heap (w : World) (g : Nat) (F : Array Value) {cur : Array Value} {e : TypeId} {fr : Nat × Nat} (h : w.heap[g]? = some (.cells cur e fr)) : (Go.Sort.putRow id w g 0 F).heap[g]? = some (.cells (Go.Sort.putCells id 0 F cur) e fr) := by
  unfold Go.Sort.putRow Go.Sort.mapBlock
  rw [Array.getElem?_modify, if_pos rfl, h]
  rfl
theorem putCells_take (F cur : Array Value) (h : F.size ≤ cur.size) : (Go.Sort.putCells id 0 F cur).toList.take F.size = F.toList := by
  apply List.ext_getElem?
  intro i
  by_cases hi : i < F.size
  · rw [List.getElem?_take_of_lt hi]
    simp only [Go.Sort.putCells, Array.getElem?_toList, Array.getElem?_mapIdx]
    rw [Array.getElem?_eq_getElem (show i < cur.size by omega), Array.getElem?_eq_getElem hi, Option.map_some, if_pos (by omega)]
    simp [getElem!_pos F i hi]
  · rw [List.getElem?_eq_none (by simp; omega), List.getElem?_eq_none (by simp; omega)]
theorem own_put {w : World} {base g cap n size : Nat} {e : TypeId} {xs : List Value} (h : w.ownsRow base e size (.slice (some ⟨g, 0, none⟩) n cap) n xs) (F : Array Value) (hF : F.size = n * size) : (Go.Sort.putRow id w g 0 F).ownsRow base e size (.slice (some ⟨g, 0, none⟩) n cap) n F.toList := by
  obtain ⟨h1, h2⟩ := h
  refine ⟨by simpa using hF, ?_⟩
  rcases h2 with ⟨h2, _⟩ | ⟨g', cap', cur, h2, h3, h4, h5, h6, h7, h8⟩
  · cases h2
  · injection h2 with h2 _ h9
    injection h2 with h2
    injection h2 with h2
    subst h2 h9
    refine .inr ⟨g, cap, _, rfl, h3, putRow_heap w g F h4, h5, h6, by simpa [Go.Sort.putCells] using h7, ?_⟩
    rw [← hF]
    exact putCells_take F cur (by rw [hF, h7]; exact Nat.mul_le_mul_right _ h5)
theorem flat_get (d : Array S58) (t : Nat) (ht : t < d.size * 2) : (flatK encC 2 d).toList[t]? = (encC d[t / 2]!)[t % 2]? := by
  have hs : (flatK encC 2 d).size = d.size * 2 := size_flatK _ _ _
  have h := get_flatK encC 2 d t ht
  have ht' : t < (flatK encC 2 d).size := by rw [hs]; exact ht
  rw [Array.getElem?_toList, Array.getElem?_eq_getElem ht', ← getElem!_pos (flatK encC 2 d) t ht', h]
  have hm : t % 2 < (encC d[t / 2]!).length := Nat.mod_lt _ (by decide)
  rw [List.getElem?_eq_getElem hm, getElem!_pos (encC d[t / 2]!) (t % 2) hm]
theorem flat_reps (d : Array S58) (w : World) (base : Nat) (ok : Nat → Prop) : Reps (k58.M w base ok) 2 d.toList (flatK encC 2 d).toList := by
  refine ⟨by simp, fun j p hp => ?_⟩
  have hj : j < d.size := by
    have := List.getElem?_eq_some_iff.1 hp
    obtain ⟨h, _⟩ := this
    simpa using h
  have e : ((flatK encC 2 d).toList.drop (j * 2)).take 2 = encC p := by
    apply List.ext_getElem?
    intro i
    by_cases hi : i < 2
    · rw [List.getElem?_take_of_lt hi, List.getElem?_drop, flat_get d (j * 2 + i) (by omega)]
      have e1 : (j * 2 + i) / 2 = j := by omega
      have e2 : (j * 2 + i) % 2 = i := by omega
      rw [e1, e2]
      have e3 : d[j]! = p := by
        rw [getElem!_pos d j hj]
        rw [Array.getElem?_toList, Array.getElem?_eq_getElem hj] at hp
        exact Option.some.inj hp
      rw [e3]
    · rw [List.getElem?_eq_none (by simp; omega), List.getElem?_eq_none (by simp; omega)]
  rw [e]
  exact ⟨_, _, rfl, rfl, rfl⟩
theorem R_putK {w : World} {base g cap : Nat} {ok : Nat → Prop} {xs : List S58} (h : Kd.R k58 58 w base ok (.slice (some ⟨g, 0, none⟩) xs.length cap) xs) (d : Array S58) (hd : d.size = xs.length) : Kd.R k58 58 (putRowK encC 2 w g 0 d) base ok (.slice (some ⟨g, 0, none⟩) xs.length cap) d.toList := by
  obtain ⟨h1, inner, h2, h3⟩ := h
  have hl : d.toList.length = xs.length := by simpa using hd
  refine ⟨h1, (flatK encC 2 d).toList, ?_, flat_reps d _ _ _⟩
  rw [hl]
  exact own_put h2 _ (by rw [size_flatK, hd]; rfl)
theorem R_holds {w : World} {base g cap : Nat} {ok : Nat → Prop} {xs : List S58} (h : Kd.R k58 58 w base ok (.slice (some ⟨g, 0, none⟩) xs.length cap) xs) : HoldsK encC 2 w g 0 xs.toArray := by
  obtain ⟨h1, inner, ⟨h2, h3⟩, h4, h5⟩ := h
  rcases h3 with ⟨h3, _⟩ | ⟨g', cap', cur, h3, h6, h7, h8, h9, h10, h11⟩
  · cases h3
  · injection h3 with h3 _ h12
    injection h3 with h3
    injection h3 with h3
    subst h3 h12
    intro t ht
    rw [size_flatK] at ht
    have ht2 : t < xs.length * 2 := by simpa using ht
    refine ⟨?_, by rw [Nat.zero_add]; exact blk_frozen h7 t⟩
    rw [Nat.zero_add, blk_cell h7 t]
    have e1 : cur[t]? = inner[t]? := by
      rw [← h11, List.getElem?_take_of_lt (by exact ht2), Array.getElem?_toList]
    have hj : t / 2 < xs.length := by omega
    obtain ⟨c1, c2, hc, hc1, hc2⟩ := h5 (t / 2) xs[t / 2] (List.getElem?_eq_getElem hj)
    have e2 : inner[t]? = (encC xs[t / 2])[t % 2]? := by
      have e3 : ((inner.drop (t / 2 * 2)).take 2)[t % 2]? = inner[t]? := by
        rw [List.getElem?_take_of_lt (Nat.mod_lt _ (by decide)), List.getElem?_drop]
        congr 1
        omega
      rw [← e3]
      have : (inner.drop (t / 2 * 2)).take 2 = encC xs[t / 2] := by
        refine hc.trans ?_
        rw [show c1 = [.int .i64 (xs[t / 2]).f0] from hc1, show c2 = [.int .i64 (xs[t / 2]).f1] from hc2]
        rfl
      rw [this]
    have ht' : t < (flatK encC 2 xs.toArray).size := by rw [size_flatK]; exact ht
    have e4 := flat_get xs.toArray t ht
    rw [Array.getElem?_toList, Array.getElem?_eq_getElem ht'] at e4
    rw [e1, e2]
    have e5 : xs.toArray[t / 2]! = xs[t / 2] := by rw [getElem!_pos xs.toArray (t / 2) (by simpa using hj)]; simp
    rw [e5] at e4
    rw [← e4, getElem!_pos _ t ht']
    rfl
theorem cI_eq (a b : Int) : cmp_Compare_int64.f a b = some (cI a b) := by
  unfold cmp_Compare_int64.f cmp_isNaN_int64.f cI
  simp only [bne_self_eq_false, Option.bind_some, Bool.false_eq_true, if_false]
  split
  · rfl
  · split <;> rfl
theorem cmpV_eq (x y : S58) : impl_compareCells.f x.f0 x.f1 y.f0 y.f1 = some (cmpV x y) := by
  unfold impl_compareCells.f cmpV
  simp only [cI_eq, Option.bind_some]
  split <;> rfl
theorem ltV (x y : S58) : ltOf cmpV x y = decide (x.f1 < y.f1 ∨ x.f1 = y.f1 ∧ x.f0 < y.f0) := by
  unfold ltOf cmpV cI
  rw [Bool.eq_iff_iff]
  rw [decide_eq_true_eq (p := x.f1 < y.f1 ∨ x.f1 = y.f1 ∧ x.f0 < y.f0)]
  constructor
  · intro h
    rw [decide_eq_true_eq] at h
    repeat' split at h
    all_goals omega
  · intro h
    rw [decide_eq_true_eq]
    repeat' split
    all_goals omega
theorem swoV : SWO (ltOf cmpV) where
  irrefl x := by rw [ltV]; simp
  trans x y z h1 h2 := by
    rw [ltV] at *
    simp only [decide_eq_true_eq] at *
    omega
  ntrans x y z h1 h2 := by
    rw [ltV] at *
    simp only [decide_eq_false_iff_not] at *
    omega
theorem antiV (x y : S58) (h1 : ltOf cmpV x y = false) (h2 : ltOf cmpV y x = false) : x = y := by
  rw [ltV] at *
  simp only [decide_eq_false_iff_not] at *
  obtain ⟨a, b⟩ := x
  obtain ⟨c, d⟩ := y
  simp only [S58.mk.injEq]
  simp only at h1 h2
  omega
def sortC (l : List S58) : List S58 := l.mergeSort fun x y => !ltOf cmpV y x
theorem sortW_grown (w : World) (g n : Nat) (d : Array S58) (os : Array Obj) : w.grownBy (sortWorldK encC 2 w g 0 n d os) (some g) := by
  refine ⟨rfl, rfl, rfl, ?_, fun k hk hne => ?_⟩
  · show w.heap.size ≤ ((w.heap.modify g _) ++ os).size
    simp
  · show ((w.heap.modify g _) ++ os)[k]? = w.heap[k]?
    rw [Array.getElem?_append_left (by simpa using hk), Array.getElem?_modify, if_neg]
    intro e
    exact hne (by rw [e])
theorem R_growO {w : World} {base : Nat} {ok : Nat → Prop} {v : Value} {xs : List S58} (h : Kd.R k58 58 w base ok v xs) (os : Array Obj) : Kd.R k58 58 (grow w os) base ok v xs := by
  refine Kd.R_mono (Kd.R_move (Kd.R_bound h) (fun k hk => ?_)) (fun _ hk => hk.1)
  show (w.heap ++ os)[k]? = w.heap[k]?
  rw [Array.getElem?_append_left hk.2.2.1]
def impl_Cell_98__impl_compareCells.f (l0 : List S58) : Option (List S58) := if 0 < l0.length ∧ l0.length < 4611686018427387904 then some (sortC l0) else none
set_option maxHeartbeats 4000000 in
theorem impl_Cell_98__impl_compareCells.calls (P0_ : Nat → Prop) (u9000_ : Value) (l0 : List S58) (r : List S58) (w0 w : World) (hB : Below w0.heap.size w0 w) (ho0 : Kd.R k58 58 w w0.heap.size P0_ u9000_ l0) (h : impl_Cell_98__impl_compareCells.f l0 = some r) :
    Calls Tryz.prog 98 #[u9000_, .func (.func 58) #[] #[]] w fun e w' => e = .returned (.tuple #[]) ∧ Kd.R k58 58 w' w0.heap.size (fun k_ => (P0_ k_ ∨ w.heap.size ≤ k_)) u9000_ r ∧ Below w0.heap.size w0 w' ∧ Kept w w' (fun k_ => P0_ k_) := by
  unfold impl_Cell_98__impl_compareCells.f at h
  by_cases hl : 0 < l0.length ∧ l0.length < 4611686018427387904
  · rw [if_pos hl] at h
    obtain rfl := Option.some.inj h
    obtain ⟨g, cap, rfl, hbase, hlt, hcells⟩ := Kd.R_form ho0 hl.1
    have hH := R_holds ho0
    have eg : ∀ args w, (callFunc 58 args).run Tryz.prog w = .ok (.enter 58 args) w := enters_of Tryz.func58 (by kernel_rfl) rfl
    have hcmp : CmpLays Tryz.prog 58 #[] encC 2 cmpV g 0 l0.toArray.size w := fun m os dk hdk x y =>
      (impl_compareCells.callsG x.f0 x.f1 y.f0 y.f1 (cmpV x y) _ (cmpV_eq x y)).mono fun _ _ hh => ⟨hh.1, hh.2.gr⟩
    have hcon := AnyQ.slices_SortFunc sortC_lays 2 Tryz.isAgg58 Tryz.sizeOf58 encC (fun _ => rfl) (fun x v hv => by simp [encC] at hv; rcases hv with rfl | rfl <;> rfl) cmpV swoV 58 #[] g 0 cap l0.toArray w eg hcmp hH hlt (by simpa using hl.2)
    have hsz : l0.toArray.size = l0.length := by simp
    rw [hsz] at hcon
    refine (show Calls Tryz.prog 98 #[.slice (some ⟨g, 0, none⟩) l0.length cap, .func (.func 58) #[] #[]] w _ from hcon).mono ?_
    rintro e w' ⟨rfl, d', n, os, hp, hs, rfl⟩
    have hd : d'.size = l0.length := by rw [hp.1]; simp
    have hr : d'.toList = sortC l0 := by
      have := sorted_unique_holds swoV antiV l0.toArray d' (by rw [hsz]; exact hp) (by rw [hsz]; exact hs)
      simpa [sortC] using this
    have hgw := sortW_grown w g n d' os
    refine ⟨rfl, ?_, pw_below_grown hB (some g) hB.size hgw (fun k hk => by injection hk with hk; exact hk ▸ hbase), ?_⟩
    · have h1 : Kd.R k58 58 (Go.Sort.ahead w n) w0.heap.size P0_ (.slice (some ⟨g, 0, none⟩) l0.length cap) l0 := Kd.R_drewN ho0 n
      have h2 := R_growO (R_putK h1 d' hd) os
      rw [hr] at h2
      exact Kd.R_mono h2 (fun _ hk => .inl hk)
    · refine ⟨hgw.size, fun i hi hn => hgw.block i hi ?_⟩
      intro e
      injection e with e
      exact hn (e ▸ ho0.1 g rfl)
  · rw [if_neg hl] at h
    exact absurd h (by simp)
end Go.Proofs.YtfdfdifjkaaeoaaGreat.F
end
section
namespace Go.Proofs.YtfdfdifjkaaeoaaGreat.F
open Go.RowKit Go.Proofs.YtfdfdifjkaaeoaaGreatW.PrintWords Go.Proofs.YtfdfdifjkaaeoaaGreatW.PrintLast Go.Proofs.YtfdfdifjkaaeoaaGreatW.PrintMore
attribute [local go_sem] max2_int min2_int max_two min_two max_three min_three max_four min_four
set_option linter.unusedVariables false
set_option linter.unusedSimpArgs false
attribute [local go_sem high] eqA58
def sortS_lays_ren : Go.Shelf.Ren := ⟨fun | 6 => 69 | 15 => 79 | 14 => 78 | 28 => 94 | 29 => 95 | 20 => 86 | 21 => 87 | 22 => 88 | 23 => 89 | 24 => 90 | 25 => 91 | 26 => 92 | 27 => 93 | 46 => 99 | 47 => 100 | 48 => 101 | 49 => 102 | 50 => 103 | 57 => 105 | n => n, fun | 22 => 54 | 24 => 28 | 25 => 86 | 3 => 3 | 39 => 92 | 0 => 0 | 53 => 104 | 55 => 106 | 4 => 4 | 46 => 98 | 45 => 97 | 50 => 84 | 5 => 5 | 9 => 9 | 66 => 108 | 70 => 112 | 76 => 115 | 77 => 116 | n => n, fun n => n⟩
theorem sortS_lays : SlLaysF.n6 Tryz.prog sortS_lays_ren where
  mixed := by kernel_rfl
  f6 := ⟨Tryz.f69.name, by kernel_rfl, Tryz.func69.trans (congrArg some (by kernel_rfl))⟩
  f14 := ⟨Tryz.f78.name, by kernel_rfl, Tryz.func78.trans (congrArg some (by kernel_rfl))⟩
  f15 := Tryz.func79.trans (congrArg some (by kernel_rfl))
  f20 := ⟨Tryz.f86.name, by kernel_rfl, Tryz.func86.trans (congrArg some (by kernel_rfl))⟩
  f21 := ⟨Tryz.f87.name, by kernel_rfl, Tryz.func87.trans (congrArg some (by kernel_rfl))⟩
  f22 := ⟨Tryz.f88.name, by kernel_rfl, Tryz.func88.trans (congrArg some (by kernel_rfl))⟩
  f23 := ⟨Tryz.f89.name, by kernel_rfl, Tryz.func89.trans (congrArg some (by kernel_rfl))⟩
  f24 := ⟨Tryz.f90.name, by kernel_rfl, Tryz.func90.trans (congrArg some (by kernel_rfl))⟩
  f25 := ⟨Tryz.f91.name, by kernel_rfl, Tryz.func91.trans (congrArg some (by kernel_rfl))⟩
  f26 := ⟨Tryz.f92.name, by kernel_rfl, Tryz.func92.trans (congrArg some (by kernel_rfl))⟩
  f27 := ⟨Tryz.f93.name, by kernel_rfl, Tryz.func93.trans (congrArg some (by kernel_rfl))⟩
  f28 := Tryz.func94.trans (congrArg some (by kernel_rfl))
  f29 := Tryz.func95.trans (congrArg some (by kernel_rfl))
  f46 := ⟨Tryz.f99.name, by kernel_rfl, Tryz.func99.trans (congrArg some (by kernel_rfl))⟩
  f47 := Tryz.func100.trans (congrArg some (by kernel_rfl))
  f48 := Tryz.func101.trans (congrArg some (by kernel_rfl))
  f49 := ⟨Tryz.f102.name, by kernel_rfl, Tryz.func102.trans (congrArg some (by kernel_rfl))⟩
  f50 := ⟨Tryz.f103.name, by kernel_rfl, Tryz.func103.trans (congrArg some (by kernel_rfl))⟩
  f57 := ⟨Tryz.f105.name, by kernel_rfl, Tryz.func105.trans (congrArg some (by kernel_rfl))⟩
  t0 := Tryz.underlying0
  a0 := Tryz.isAgg0
  z0 := Tryz.sizeOf0
  v0 := Tryz.zeroValue0
  t3 := Tryz.underlying3
  a3 := Tryz.isAgg3
  z3 := Tryz.sizeOf3
  v3 := Tryz.zeroValue3
  t4 := Tryz.underlying4
  a4 := Tryz.isAgg4
  z4 := Tryz.sizeOf4
  v4 := Tryz.zeroValue4
  t5 := Tryz.underlying5
  a5 := Tryz.isAgg5
  z5 := Tryz.sizeOf5
  v5 := Tryz.zeroValue5
  t9 := Tryz.underlying9
  a9 := Tryz.isAgg9
  z9 := Tryz.sizeOf9
  v9 := Tryz.zeroValue9
  t22 := Tryz.underlying54
  a22 := Tryz.isAgg54
  z22 := Tryz.sizeOf54
  v22 := Tryz.zeroValue54
  a24 := Tryz.isAgg28
  z24 := Tryz.sizeOf28
  t25 := Tryz.underlying86
  a25 := Tryz.isAgg86
  z25 := Tryz.sizeOf86
  v25 := Tryz.zeroValue86
  t39 := Tryz.underlying92
  a39 := Tryz.isAgg92
  z39 := Tryz.sizeOf92
  v39 := Tryz.zeroValue92
  t45 := Tryz.underlying97
  a45 := Tryz.isAgg97
  z45 := Tryz.sizeOf97
  v45 := Tryz.zeroValue97
  t46 := Tryz.underlying98
  a46 := Tryz.isAgg98
  z46 := Tryz.sizeOf98
  v46 := Tryz.zeroValue98
  t50 := Tryz.underlying84
  a50 := Tryz.isAgg84
  z50 := Tryz.sizeOf84
  v50 := Tryz.zeroValue84
  t53 := Tryz.underlying104
  a53 := Tryz.isAgg104
  z53 := Tryz.sizeOf104
  v53 := Tryz.zeroValue104
  t55 := Tryz.underlying106
  a55 := Tryz.isAgg106
  z55 := Tryz.sizeOf106
  v55 := Tryz.zeroValue106
  t66 := Tryz.underlying108
  a66 := Tryz.isAgg108
  z66 := Tryz.sizeOf108
  v66 := Tryz.zeroValue108
  t70 := Tryz.underlying112
  a70 := Tryz.isAgg112
  z70 := Tryz.sizeOf112
  v70 := Tryz.zeroValue112
  t76 := Tryz.underlying115
  a76 := Tryz.isAgg115
  z76 := Tryz.sizeOf115
  v76 := Tryz.zeroValue115
  t77 := Tryz.underlying116
  a77 := Tryz.isAgg116
  z77 := Tryz.sizeOf116
  v77 := Tryz.zeroValue116
open Go.Sort
def ordL : List S58 → List S58 → Int
  | [], _ => 0
  | _ :: _, [] => 0
  | a :: r, b :: s => if cmpV a b = 0 then ordL r s else cmpV a b
def ordS (a b : List S58) : Int := if a.length = b.length then ordL a b else if a.length < b.length then -1 else 1
theorem cI_self (a : Int) : cI a a = 0 := by unfold cI; simp
theorem cI_anti (a b : Int) : cI b a = -cI a b := by unfold cI; repeat' split
                                                     all_goals omega
theorem cmpV_self (x : S58) : cmpV x x = 0 := by unfold cmpV; simp [cI_self]
theorem cmpV_anti (x y : S58) : cmpV y x = -cmpV x y := by
  unfold cmpV
  have h0 := cI_anti x.f0 y.f0
  have h1 := cI_anti x.f1 y.f1
  try have h2 := cI_anti x.f2 y.f2
  repeat' split
  all_goals omega
theorem lt_iff (x y : S58) : ltOf cmpV x y = false ↔ 0 ≤ cmpV x y := by
  unfold ltOf
  rw [decide_eq_false_iff_not]
  omega
end Go.Proofs.YtfdfdifjkaaeoaaGreat.F
end
