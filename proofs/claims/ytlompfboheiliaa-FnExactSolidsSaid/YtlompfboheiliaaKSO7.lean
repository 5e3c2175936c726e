/- The row of FnExactSolids, with what it needs: text 8 of 12. -/
import Derived.Test.YtlompfboheiliaaKSO6
set_option maxHeartbeats 8000000
set_option maxRecDepth 100000
section
namespace Go.Proofs.Ytlompfboheiliaa.F
open Go.RowKit Go.Proofs.YtlompfboheiliaaW.PrintWords Go.Proofs.YtlompfboheiliaaW.PrintLast Go.Proofs.YtlompfboheiliaaW.PrintMore
attribute [local go_sem] max2_int min2_int max_two min_two max_three min_three max_four min_four
set_option linter.unusedVariables false
set_option linter.unusedSimpArgs false
theorem impl_leastSolid.calls (k : Nat) (A0 : Option Addr) (c0 : Nat) (l0 : List (S43)) (a1 : Bool) (r : List (S43)) (w : World) (hr0 : Kd.C k43 w A0 l0.length l0) (hc0 : l0.length ≤ c0) (h : impl_leastSolid.f k l0 a1 = some r) :
  Calls Try.prog 45 #[.slice A0 l0.length c0, .bool a1] w fun e w' => ∃ v0_ : Value, e = .returned (v0_) ∧ Kd.R k43 43 w' w.heap.size (fun _ => True) v0_ r ∧ Below w.heap.size w w' := by
 have HR0 := aM hr0
 have HC0 := aM hc0
 clear hr0 hc0
 have HB := aM (Below.refl w.heap.size w)
 have H : (if a1 = true then (impl_leastSolid.j0 k l0 48) else (impl_leastSolid.j0 k l0 24)) = some r := h
 clear h
 have HC3 := aM H
 clear H
 go_enter Try.func45, Try.ntmps45
 go_upto_if 9 with (fail)
 go_cut [5] (fun v5 wc => ∃ (kq : Nat) (x5_2 : Int), v5 = .int .i64 x5_2 ∧ Aside0 (impl_leastSolid.j0 kq l0 x5_2 = some r) ∧ Aside0 (kq ≤ k) ∧ Aside0 (Below w.heap.size w wc))
 case first =>
  have H := HC3.out
  clear HC3
  by_cases c4 : a1 = true
  ·subst c4
   have H1 : (impl_leastSolid.j0 k l0 48) = some r := by rw [if_pos rfl] at H; exact H
   clear H
   have H := H1
   clear H1
   have H' := aM H
   clear H
   go_wp2
   go_meet
   case rel => exact ⟨_, (48), zr, H', ⟨by first | omega | exact Nat.le_refl _⟩, ⟨zb⟩⟩
  replace c4 := Bool.eq_false_iff.mpr c4
  subst c4
  have H1 : (impl_leastSolid.j0 k l0 24) = some r := by rw [if_neg (show ¬ (false = true) by decide)] at H; exact H
  clear H
  have H := H1
  clear H1
  have H' := aM H
  clear H
  go_wp2
  go_meet
  case rel => exact ⟨_, (24), zr, H', ⟨by first | omega | exact Nat.le_refl _⟩, ⟨zb⟩⟩
 case rest =>
  clear HC3
  try clear p2
  try clear c4
  obtain ⟨kq, x5_2, rfl, HA, HJ2, HB⟩ := hcut
  cases kq with
  | zero => exact absurd HA.out (by simp [impl_leastSolid.j0])
  | succ kj2 =>
   have H := HA.out
   clear HA
   simp only [impl_leastSolid.j0] at H
   replace H := Option.bind_eq_some_iff.mp H
   obtain ⟨t438, A50, H⟩ := H
   replace H : (impl_leastSolid.l0 kj2 l0 x5_2 t438 1) = some r := H
   have A5 := aM A50
   clear A50
   have H' := aM H
   clear H
   go_wp2_with (first | ((with_reducible refine gate_callee (f := 60) rfl ?_); refine goesL_ (some 11) rfl rfl Try.func60 (by kernel_rfl) rfl #[.slice A0 l0.length c0, .int .i64 0] rfl zm ?_; (with_reducible refine (impl_cubeForm.calls kj2 _ _ l0 0 t438 _ ?side1 ?side2 A5.out).mono ?_); (case side1 => repeat (first | exact (Kd.C_below HR0.out HB.out) | (with_reducible refine Kd.C_alloc ?_ _) | (with_reducible refine Kd.C_drewN ?_ _) | (with_reducible refine Kd.C_drew ?_))); (case side2 => exact HC0.out); rintro e w6 ⟨v439, rfl, ho0, hb⟩; refine ⟨_, rfl, ?_⟩; have n0_ := aM (Kd.R_lower ho0 (below_size zb)); have n1_ := aM (below_step zb hb); clear HB; have HO440 := n0_; have HB := n1_; clear n0_ n1_; (try clear hb); (try clear hb2); (try clear hk); (try clear hi); (try clear ho0)))
   go_loopg [6, 7] kj2 (fun kq v6 v7 w' => ∃ (x6_2 : List (S43)) (x7_2 : Int), v7 = .int .i64 x7_2 ∧ Aside0 (impl_leastSolid.l0 kq l0 x5_2 x6_2 x7_2 = some r) ∧ Aside0 (kq ≤ kj2) ∧ Aside0 (Kd.R k43 43 w' w.heap.size (fun _ => True) v6 x6_2) ∧ Aside0 (Below w.heap.size w w'))
   case atStart => exact ⟨(t438), (1), zr, H', ⟨Nat.le_refl _⟩, ⟨mR_ HO440.out⟩, ⟨zb⟩⟩
   case round =>
    clear H'
    try clear p2
    try clear c4
    try clear c6
    try clear p2
    obtain ⟨x6_2, x7_2, rfl, HA, HK2, HO_6, HB⟩ := hrel
    cases gk with
    | zero => exact absurd HA.out (by simp [impl_leastSolid.l0])
    | succ k2 =>
     have H := HA.out
     clear HA
     simp only [impl_leastSolid.l0] at H
     by_cases c7 : x7_2 < x5_2
     rotate_left
     ·rw [if_neg c7] at H
      have c7b0 : decide (x7_2 < x5_2) = false := decide_eq_false c7
      clear c7
      obtain rfl := Option.some.inj H
      go_wp2
      go_ret
      exact ⟨_, zw, mR_ HO_6.out, zb⟩
     rw [if_pos c7] at H
     have c7b0 : decide (x7_2 < x5_2) = true := decide_eq_true c7
     clear c7
     replace H := Option.bind_eq_some_iff.mp H
     obtain ⟨t441, A80, H⟩ := H
     replace H : ((impl_compareSolids.f k2 t441 x6_2).bind fun t444 => (if t444 < 0 then (impl_leastSolid.l0 k2 l0 x5_2 t441 (wrap64 (x7_2 + 1))) else (impl_leastSolid.l0 k2 l0 x5_2 x6_2 (wrap64 (x7_2 + 1))))) = some r := H
     have A8 := aM A80
     clear A80
     replace H := Option.bind_eq_some_iff.mp H
     obtain ⟨t444, A90, H⟩ := H
     replace H : (if t444 < 0 then (impl_leastSolid.l0 k2 l0 x5_2 t441 (wrap64 (x7_2 + 1))) else (impl_leastSolid.l0 k2 l0 x5_2 x6_2 (wrap64 (x7_2 + 1)))) = some r := H
     have A9 := aM A90
     clear A90
     by_cases c10 : t444 < 0
     ·rw [if_pos c10] at H
      have c10b0 : decide (t444 < 0) = true := decide_eq_true c10
      clear c10
      have H' := aM H
      clear H
      go_wp2_with (first | ((with_reducible refine gate_callee (f := 60) rfl ?_); refine goesL_ (some 19) rfl rfl Try.func60 (by kernel_rfl) rfl #[.slice A0 l0.length c0, .int .i64 x7_2] rfl zm ?_; (with_reducible refine (impl_cubeForm.calls k2 _ _ l0 x7_2 t441 _ ?side1 ?side2 A8.out).mono ?_); (case side1 => repeat (first | exact (Kd.C_below HR0.out HB.out) | (with_reducible refine Kd.C_alloc ?_ _) | (with_reducible refine Kd.C_drewN ?_ _) | (with_reducible refine Kd.C_drew ?_))); (case side2 => exact HC0.out); rintro e w11 ⟨v442, rfl, ho0, hb⟩; refine ⟨_, rfl, ?_⟩; have n0_ := aM (Kd.R_elder' (mR_ HO_6.out) (Kd.R_base ho0) hb); have n1_ := aM (Kd.R_lower (Kd.R_new' ho0 (Kd.R_lt (mR_ HO_6.out))) (below_size zb)); have n2_ := aM (below_step zb hb); clear HO_6 HB; have HO_6 := n0_; have HO443 := n1_; have HB := n2_; clear n0_ n1_ n2_; (try clear hb); (try clear hb2); (try clear hk); (try clear hi); (try clear ho0); obtain ⟨Ao12, co12, eo12⟩ := Kd.R_slice HO443.out; subst eo12; obtain ⟨Ao13, co13, eo13⟩ := Kd.R_slice HO_6.out; subst eo13) | ((with_reducible refine gate_callee (f := 41) rfl ?_); refine goesL_ (some 22) rfl rfl Try.func41 (by kernel_rfl) rfl #[.slice Ao12 t441.length co12, .slice Ao13 x6_2.length co13] rfl zm ?_; (with_reducible refine (impl_compareSolids.calls k2 _ _ t441 _ _ x6_2 t444 _ ?side1 ?side2 ?side3 ?side4 A9.out).mono ?_); (case side1 => exact zc HO443.out); (case side2 => exact (Kd.R_reads' HO443.out).2.1); (case side3 => exact zc HO_6.out); (case side4 => exact (Kd.R_reads' HO_6.out).2.1); rintro e w14 ⟨rfl, hb⟩; refine ⟨_, rfl, ?_⟩; have n0_ := aM (Kd.R_below (mR_ HO_6.out) hb); have n1_ := aM (Kd.R_below (mR_ HO443.out) hb); have n2_ := aM (below_step zb hb); clear HO_6 HO443 HB; have HO_6 := n0_; have HO443 := n1_; have HB := n2_; clear n0_ n1_ n2_; (try clear hb); (try clear hb2); (try clear hk); (try clear hi)))
      go_roundg k2
      case measure => have := HJ2.out; have := HK2.out; omega
      case rel => exact ⟨(t441), (wrap64 (x7_2 + 1)), zr, H', ⟨by have := HJ2.out; have := HK2.out; omega⟩, ⟨zd1 HO443.out⟩, ⟨zb⟩⟩
     rw [if_neg c10] at H
     have c10b0 : decide (t444 < 0) = false := decide_eq_false c10
     clear c10
     have H' := aM H
     clear H
     go_wp2_with (first | ((with_reducible refine gate_callee (f := 60) rfl ?_); refine goesL_ (some 19) rfl rfl Try.func60 (by kernel_rfl) rfl #[.slice A0 l0.length c0, .int .i64 x7_2] rfl zm ?_; (with_reducible refine (impl_cubeForm.calls k2 _ _ l0 x7_2 t441 _ ?side1 ?side2 A8.out).mono ?_); (case side1 => repeat (first | exact (Kd.C_below HR0.out HB.out) | (with_reducible refine Kd.C_alloc ?_ _) | (with_reducible refine Kd.C_drewN ?_ _) | (with_reducible refine Kd.C_drew ?_))); (case side2 => exact HC0.out); rintro e w15 ⟨v442, rfl, ho0, hb⟩; refine ⟨_, rfl, ?_⟩; have n0_ := aM (Kd.R_elder' (mR_ HO_6.out) (Kd.R_base ho0) hb); have n1_ := aM (Kd.R_lower (Kd.R_new' ho0 (Kd.R_lt (mR_ HO_6.out))) (below_size zb)); have n2_ := aM (below_step zb hb); clear HO_6 HB; have HO_6 := n0_; have HO443 := n1_; have HB := n2_; clear n0_ n1_ n2_; (try clear hb); (try clear hb2); (try clear hk); (try clear hi); (try clear ho0); obtain ⟨Ao16, co16, eo16⟩ := Kd.R_slice HO443.out; subst eo16; obtain ⟨Ao17, co17, eo17⟩ := Kd.R_slice HO_6.out; subst eo17) | ((with_reducible refine gate_callee (f := 41) rfl ?_); refine goesL_ (some 22) rfl rfl Try.func41 (by kernel_rfl) rfl #[.slice Ao16 t441.length co16, .slice Ao17 x6_2.length co17] rfl zm ?_; (with_reducible refine (impl_compareSolids.calls k2 _ _ t441 _ _ x6_2 t444 _ ?side1 ?side2 ?side3 ?side4 A9.out).mono ?_); (case side1 => exact zc HO443.out); (case side2 => exact (Kd.R_reads' HO443.out).2.1); (case side3 => exact zc HO_6.out); (case side4 => exact (Kd.R_reads' HO_6.out).2.1); rintro e w18 ⟨rfl, hb⟩; refine ⟨_, rfl, ?_⟩; have n0_ := aM (Kd.R_below (mR_ HO_6.out) hb); have n1_ := aM (Kd.R_below (mR_ HO443.out) hb); have n2_ := aM (below_step zb hb); clear HO_6 HO443 HB; have HO_6 := n0_; have HO443 := n1_; have HB := n2_; clear n0_ n1_ n2_; (try clear hb); (try clear hb2); (try clear hk); (try clear hi)))
     go_roundg k2
     case measure => have := HJ2.out; have := HK2.out; omega
     case rel => exact ⟨(x6_2), (wrap64 (x7_2 + 1)), zr, H', ⟨by have := HJ2.out; have := HK2.out; omega⟩, ⟨zd1 HO_6.out⟩, ⟨zb⟩⟩
def impl_ownSolids.l0 : Nat → Bool → List (List (S43)) → List (List (S43)) → Int → Int → Option ((List (List (S43))))
 | 0, _, _, _, _, _ => none
 | k + 1, x1, x5, x9, x10, x11 => if x11 < x10 then (if 0 ≤ x11 then (if x11 < (x9.length : Int) then ((impl_leastSolid.f k (rd_L2 x9 x11) x1).bind fun t449 => ((impl_Cube_44.f k t449 (rd_L2 x9 x11)).bind fun t452 => (if t452 = true then (if x5.length < 5864062014805 then (impl_ownSolids.l0 k x1 (x5 ++ [rd_L2 x9 x11]) x9 x10 (wrap64 (x11 + 1))) else (none)) else (impl_ownSolids.l0 k x1 x5 x9 x10 (wrap64 (x11 + 1)))))) else (none)) else (none)) else (some x5)
def impl_ownSolids.f (k : Nat) (l0 : List (List (S43))) (a1 : Bool) : Option ((List (List (S43)))) := (impl_ownSolids.l0 k a1 (([] : List (List (S43)))) l0 (l0.length : Int) 0).bind fun r_ => if apartB r_ = true then some r_ else none
theorem impl_ownSolids.calls (k : Nat) (P0_ : Nat → Prop) (A0 : Option Addr) (c0 : Nat) (l0 : List (List (S43))) (a1 : Bool) (r : List (List (S43))) (w : World) {b_ : Nat} (hb_ : b_ ≤ w.heap.size) (hs0 : Kd.V (own b_ 43 k43) 40 w w.heap.size (fun k_ => P0_ k_) (.slice A0 l0.length c0) l0) (h : impl_ownSolids.f k l0 a1 = some r) :
  Calls Try.prog 20 #[.slice A0 l0.length c0, .bool a1] w fun e w' => ∃ v0_ : Value, e = .returned (v0_) ∧ Kd.S (Kd.slice 43 k43) 40 w' b_ (fun k_ => (P0_ k_ ∨ w.heap.size ≤ k_)) v0_ r ∧ Below w.heap.size w w' := by
 have HO0 := aM (show Kd.V (own b_ 43 k43) 40 w w.heap.size (fun k_ => (P0_ k_ ∨ w.heap.size ≤ k_)) (.slice A0 l0.length c0) l0 from Kd.V_mono hs0 (fun k_ hk => .inl hk))
 have HB := aM (Below.refl w.heap.size w)
 obtain ⟨H, HAP⟩ : (impl_ownSolids.l0 k a1 (([] : List (List (S43)))) l0 (l0.length : Int) 0) = some r ∧ apartB r = true := by
  unfold impl_ownSolids.f at h
  obtain ⟨r_, h1_, h2_⟩ := Option.bind_eq_some_iff.mp h
  by_cases h3_ : apartB r_ = true
  rotate_left
  ·rw [if_neg h3_] at h2_
   cases h2_
  rw [if_pos h3_] at h2_
  obtain rfl := Option.some.inj h2_
  exact ⟨h1_, h3_⟩
 clear h
 obtain ⟨y445, hy445⟩ : ∃ y_ : List (List (S43)), y_ = (([] : List (List (S43)))) := ⟨_, rfl⟩
 replace H : (impl_ownSolids.l0 k a1 y445 l0 (l0.length : Int) 0) = some r := zy H hy445
 have Ny445 := aM hy445
 clear hy445
 have H' := aM H
 clear H
 go_enter Try.func20, Try.ntmps20
 go_wp2_with (first | ((with_reducible refine gate_dst (N := 8) rfl ?_); refine Kd.N_lit (own b_ 43 k43) _ 40 ?hg (N' := 8) ?hd (xs := ([] : List (List (S43)))) (inner := []) (ok := (fun k_ => (P0_ k_ ∨ w.heap.size ≤ k_))) (okp := (fun k_ => (P0_ k_ ∨ w.heap.size ≤ k_))) ?hr ?hp (fun _ hk => hk) ((show ∀ k_, w.heap.size ≤ k_ → (fun k_ => (P0_ k_ ∨ w.heap.size ≤ k_)) k_ from fun k_ hk => (.inr (Nat.le_trans (below_size zb) hk))) _ (Nat.le_refl _)) (Below.refl _ _) (Nat.le_refl _) (by simp) ?_; (case hd => rfl); (case hg => rfl); (case hr => first | (go_simp; done) | (go_simp; rfl)); (case hp => exact (Reps.none _ _)); intro v446 w3 ho4 hb hg_ hnew_; clear hg_ hnew_; (first | rw [← Ny445.out] at ho4 | (simp only [Int.reduceToNat] at ho4; rw [← Ny445.out] at ho4)); have n0_ := aM (Kd.V_elder' (mV_ HO0.out) (by first | exact Kd.N_base ho4 | exact Kd.S_base ho4 | exact Kd.R_base ho4) hb); have n1_ := aM (Kd.N_lower ho4 (below_size zb)); have n2_ := aM (below_step zb hb); clear HO0 HB; have HO0 := n0_; have HO447 := n1_; have HB := n2_; clear n0_ n1_ n2_; clear hb ho4))
 go_loopg [5, 11] k (fun kq v5 v11 w' => ∃ (x5_1 : List (List (S43))) (x11_1 : Int), v11 = .int .i64 x11_1 ∧ Aside0 (impl_ownSolids.l0 kq a1 x5_1 l0 (l0.length : Int) x11_1 = some r) ∧ Aside0 (kq ≤ k) ∧ Aside0 (Kd.N (own b_ 43 k43) 40 w' w.heap.size (fun k_ => (P0_ k_ ∨ w.heap.size ≤ k_)) v5 x5_1) ∧ Aside0 (Kd.V (own b_ 43 k43) 40 w' w.heap.size (fun k_ => (P0_ k_ ∨ w.heap.size ≤ k_) ∧ some k_ ≠ (v5 : Value).ownBlock) (.slice A0 l0.length c0) l0) ∧ Aside0 (Below w.heap.size w w'))
 case atStart => exact ⟨(y445), (0), zr, H', ⟨Nat.le_refl _⟩, ⟨mN_ HO447.out⟩, ⟨mV_ HO0.out⟩, ⟨zb⟩⟩
 case round =>
  clear H'
  try clear c2
  try clear p2
  obtain ⟨x5_1, x11_1, rfl, HA, HK1, HO_5, HO_9, HB⟩ := hrel
  cases gk with
  | zero => exact absurd HA.out (by simp [impl_ownSolids.l0])
  | succ k1 =>
   have H := HA.out
   clear HA
   simp only [impl_ownSolids.l0] at H
   by_cases c5 : x11_1 < (l0.length : Int)
   rotate_left
   ·rw [if_neg c5] at H
    have c5b0 : decide (x11_1 < (l0.length : Int)) = false := decide_eq_false c5
    clear c5
    obtain rfl := Option.some.inj H
    go_wp2
    go_ret
    exact ⟨_, zw, S_of_NB (mN_ HO_5.out) hb_ HAP, zb⟩
   rw [if_pos c5] at H
   have c5b0 : decide (x11_1 < (l0.length : Int)) = true := decide_eq_true c5
   clear c5
   by_cases c6 : 0 ≤ x11_1
   rotate_left
   ·rw [if_neg c6] at H
    exact absurd H (by simp)
   rw [if_pos c6] at H
   have c6b0 : decide (0 ≤ x11_1) = true := decide_eq_true c6
   clear c6
   by_cases c7 : x11_1 < (l0.length : Int)
   rotate_left
   ·rw [if_neg c7] at H
    exact absurd H (by simp)
   rw [if_pos c7] at H
   have c7b0 : decide (x11_1 < (l0.length : Int)) = true := decide_eq_true c7
   clear c7
   replace H := Option.bind_eq_some_iff.mp H
   obtain ⟨t449, A80, H⟩ := H
   replace H : ((impl_Cube_44.f k1 t449 (rd_L2 l0 x11_1)).bind fun t452 => (if t452 = true then (if x5_1.length < 5864062014805 then (impl_ownSolids.l0 k1 a1 (x5_1 ++ [rd_L2 l0 x11_1]) l0 (l0.length : Int) (wrap64 (x11_1 + 1))) else (none)) else (impl_ownSolids.l0 k1 a1 x5_1 l0 (l0.length : Int) (wrap64 (x11_1 + 1))))) = some r := H
   have A8 := aM A80
   clear A80
   replace H := Option.bind_eq_some_iff.mp H
   obtain ⟨t452, A90, H⟩ := H
   replace H : (if t452 = true then (if x5_1.length < 5864062014805 then (impl_ownSolids.l0 k1 a1 (x5_1 ++ [rd_L2 l0 x11_1]) l0 (l0.length : Int) (wrap64 (x11_1 + 1))) else (none)) else (impl_ownSolids.l0 k1 a1 x5_1 l0 (l0.length : Int) (wrap64 (x11_1 + 1)))) = some r := H
   have A9 := aM A90
   clear A90
   by_cases c10 : t452 = true
   rotate_left
   ·replace c10 := Bool.eq_false_iff.mpr c10
    subst c10
    have H1 : (impl_ownSolids.l0 k1 a1 x5_1 l0 (l0.length : Int) (wrap64 (x11_1 + 1))) = some r := by rw [if_neg (show ¬ (false = true) by decide)] at H; exact H
    clear H
    have H := H1
    clear H1
    have H' := aM H
    clear H
    have p448 : 0 ≤ (x11_1 : Int) := of_decide_eq_true za
    have q448 : x11_1 < (l0.length : Int) := of_decide_eq_true za
    obtain ⟨ad448, A448_0, c448_0, e448, hx448_0, hl448_0, hi448_0⟩ := at_L2 (Kd.V_reads' (VO_slice HO_9.out)).2.2 x11_1 p448 q448
    cases e448
    obtain ⟨ce448, hce448, hMe448, hcc448⟩ := Kd.V_get HO_9.out [] x11_1 p448 (by first | exact q448 | exact of_decide_eq_true za | (have e_ := (Kd.V_reads' HO_9.out).1; omega))
    obtain ⟨ua448_0, uc448_0, rfl, ul448_0, ge448_0⟩ := Kd.FK_slice_open (FKO_slice hMe448)
    have hv448_0 := hcc448 0 _ rfl
    rw [Nat.add_zero, show ((own b_ 43 k43)).sz = 1 from rfl, Nat.mul_one] at hv448_0
    replace hv448_0 := Option.some.inj (hv448_0.symm.trans hx448_0)
    injection hv448_0 with hva_ hvn_ hvc_
    rw [hva_] at ge448_0
    rw [hvc_] at ul448_0
    rw [hva_, hvc_] at hMe448
    have HL448_0 := aM (show OV b_ 43 k43 _ _ _ (rd_L2 l0 x11_1) from hMe448)
    clear hva_ hvn_ hvc_ ge448_0 ul448_0
    clear hcc448 hce448
    have HR448_0 := aM hi448_0
    have HC448_0 := aM hl448_0
    clear hi448_0 hl448_0
    replace p448 := eq_true p448
    replace q448 := eq_true q448
    go_wp2_with (first | ((with_reducible refine gate_callee (f := 45) rfl ?_); refine goesL_ (some 17) rfl rfl Try.func45 (by kernel_rfl) rfl #[.slice A448_0 (rd_L2 l0 x11_1).length c448_0, .bool a1] rfl zm ?_; (with_reducible refine (impl_leastSolid.calls k1 _ _ (rd_L2 l0 x11_1) a1 t449 _ ?side1 ?side2 A8.out).mono ?_); (case side1 => repeat (first | exact (mQ_ HR448_0.out) | (with_reducible refine Kd.C_alloc ?_ _) | (with_reducible refine Kd.C_drewN ?_ _) | (with_reducible refine Kd.C_drew ?_))); (case side2 => exact HC448_0.out); rintro e w15 ⟨v450, rfl, ho0, hb⟩; refine ⟨_, rfl, ?_⟩; have n0_ := aM (Kd.N_elder' (mN_ HO_5.out) (Kd.R_base ho0) hb); have n1_ := aM (Kd.V_elder' (mV_ HO_9.out) (Kd.R_base ho0) hb); have n2_ := aM (OV_elder' (by (with_reducible repeat (first | apply OV_alloc | apply OV_drewN | apply OV_drew)); exact HL448_0.out) (Kd.R_base ho0) hb); have n3_ := aM (Kd.R_lower (Kd.R_newM (M := fun k_ => (w.heap.size ≤ k_)) ho0 (below_size zb) (fun k_ h_ => h_)) (below_size zb)); have n4_ := aM (Kd.C_below (mQ_ HR448_0.out) hb); have n5_ := aM (below_step zb hb); clear HO_5 HO_9 HL448_0 HR448_0 HB; have HO_5 := n0_; have HO_9 := n1_; have HL448_0 := n2_; have HO451 := n3_; have HR448_0 := n4_; have HB := n5_; clear n0_ n1_ n2_ n3_ n4_ n5_; (try clear hb); (try clear hb2); (try clear hk); (try clear hi); (try clear ho0); obtain ⟨Ao16, co16, eo16⟩ := Kd.R_slice HO451.out; subst eo16) | ((with_reducible refine gate_callee (f := 44) rfl ?_); refine goesL_ (some 19) rfl rfl Try.func44 (by kernel_rfl) rfl #[.slice Ao16 t449.length co16, .slice A448_0 (rd_L2 l0 x11_1).length c448_0] rfl zm ?_; (with_reducible refine (impl_Cube_44.calls k1 _ _ t449 _ _ (rd_L2 l0 x11_1) false _ ?side1 ?side2 ?side3 ?side4 A9.out).mono ?_); (case side1 => exact zc HO451.out); (case side2 => exact (Kd.R_reads' HO451.out).2.1); (case side3 => repeat (first | exact (mQ_ HR448_0.out) | (with_reducible refine Kd.C_alloc ?_ _) | (with_reducible refine Kd.C_drewN ?_ _) | (with_reducible refine Kd.C_drew ?_))); (case side4 => exact HC448_0.out); rintro e w' ⟨rfl, ⟨nd, rfl⟩⟩; refine ⟨_, rfl, ?_⟩))
    go_roundg k1
    case measure => have := HK1.out; omega
    case rel => exact ⟨(x5_1), (wrap64 (x11_1 + 1)), zr, H', ⟨by have := HK1.out; omega⟩, ⟨zd8 HO_5.out⟩, ⟨zd5 HO_9.out⟩, ⟨zb⟩⟩
   subst c10
   have H1 : (if x5_1.length < 5864062014805 then (impl_ownSolids.l0 k1 a1 (x5_1 ++ [rd_L2 l0 x11_1]) l0 (l0.length : Int) (wrap64 (x11_1 + 1))) else (none)) = some r := by rw [if_pos rfl] at H; exact H
   clear H
   have H := H1
   clear H1
   by_cases c11 : x5_1.length < 5864062014805
   rotate_left
   ·rw [if_neg c11] at H
    exact absurd H (by simp)
   rw [if_pos c11] at H
   have LMc11 := aM c11
   clear c11
   obtain ⟨y453, hy453⟩ : ∃ y_ : List (List (S43)), y_ = (x5_1 ++ [rd_L2 l0 x11_1]) := ⟨_, rfl⟩
   replace H : (impl_ownSolids.l0 k1 a1 y453 l0 (l0.length : Int) (wrap64 (x11_1 + 1))) = some r := zy H hy453
   have Ny453 := aM hy453
   clear hy453
   have H' := aM H
   clear H
   have p448 : 0 ≤ (x11_1 : Int) := of_decide_eq_true za
   have q448 : x11_1 < (l0.length : Int) := of_decide_eq_true za
   obtain ⟨ad448, A448_0, c448_0, e448, hx448_0, hl448_0, hi448_0⟩ := at_L2 (Kd.V_reads' (VO_slice HO_9.out)).2.2 x11_1 p448 q448
   cases e448
   obtain ⟨ce448, hce448, hMe448, hcc448⟩ := Kd.V_get HO_9.out [] x11_1 p448 (by first | exact q448 | exact of_decide_eq_true za | (have e_ := (Kd.V_reads' HO_9.out).1; omega))
   obtain ⟨ua448_0, uc448_0, rfl, ul448_0, ge448_0⟩ := Kd.FK_slice_open (FKO_slice hMe448)
   have hv448_0 := hcc448 0 _ rfl
   rw [Nat.add_zero, show ((own b_ 43 k43)).sz = 1 from rfl, Nat.mul_one] at hv448_0
   replace hv448_0 := Option.some.inj (hv448_0.symm.trans hx448_0)
   injection hv448_0 with hva_ hvn_ hvc_
   rw [hva_] at ge448_0
   rw [hvc_] at ul448_0
   rw [hva_, hvc_] at hMe448
   have HL448_0 := aM (show OV b_ 43 k43 _ _ _ (rd_L2 l0 x11_1) from hMe448)
   clear hva_ hvn_ hvc_ ge448_0 ul448_0
   clear hcc448 hce448
   have HR448_0 := aM hi448_0
   have HC448_0 := aM hl448_0
   clear hi448_0 hl448_0
   replace p448 := eq_true p448
   replace q448 := eq_true q448
   go_wp2_with (first | ((with_reducible refine gate_callee (f := 45) rfl ?_); refine goesL_ (some 17) rfl rfl Try.func45 (by kernel_rfl) rfl #[.slice A448_0 (rd_L2 l0 x11_1).length c448_0, .bool a1] rfl zm ?_; (with_reducible refine (impl_leastSolid.calls k1 _ _ (rd_L2 l0 x11_1) a1 t449 _ ?side1 ?side2 A8.out).mono ?_); (case side1 => repeat (first | exact (mQ_ HR448_0.out) | (with_reducible refine Kd.C_alloc ?_ _) | (with_reducible refine Kd.C_drewN ?_ _) | (with_reducible refine Kd.C_drew ?_))); (case side2 => exact HC448_0.out); rintro e w12 ⟨v450, rfl, ho0, hb⟩; refine ⟨_, rfl, ?_⟩; have n0_ := aM (Kd.N_elder' (mN_ HO_5.out) (Kd.R_base ho0) hb); have n1_ := aM (Kd.V_elder' (mV_ HO_9.out) (Kd.R_base ho0) hb); have n2_ := aM (OV_elder' (by (with_reducible repeat (first | apply OV_alloc | apply OV_drewN | apply OV_drew)); exact HL448_0.out) (Kd.R_base ho0) hb); have n3_ := aM (Kd.R_lower (Kd.R_newM (M := fun k_ => (w.heap.size ≤ k_)) ho0 (below_size zb) (fun k_ h_ => h_)) (below_size zb)); have n4_ := aM (Kd.C_below (mQ_ HR448_0.out) hb); have n5_ := aM (below_step zb hb); clear HO_5 HO_9 HL448_0 HR448_0 HB; have HO_5 := n0_; have HO_9 := n1_; have HL448_0 := n2_; have HO451 := n3_; have HR448_0 := n4_; have HB := n5_; clear n0_ n1_ n2_ n3_ n4_ n5_; (try clear hb); (try clear hb2); (try clear hk); (try clear hi); (try clear ho0); obtain ⟨Ao13, co13, eo13⟩ := Kd.R_slice HO451.out; subst eo13) | ((with_reducible refine gate_callee (f := 44) rfl ?_); refine goesL_ (some 19) rfl rfl Try.func44 (by kernel_rfl) rfl #[.slice Ao13 t449.length co13, .slice A448_0 (rd_L2 l0 x11_1).length c448_0] rfl zm ?_; (with_reducible refine (impl_Cube_44.calls k1 _ _ t449 _ _ (rd_L2 l0 x11_1) true _ ?side1 ?side2 ?side3 ?side4 A9.out).mono ?_); (case side1 => exact zc HO451.out); (case side2 => exact (Kd.R_reads' HO451.out).2.1); (case side3 => repeat (first | exact (mQ_ HR448_0.out) | (with_reducible refine Kd.C_alloc ?_ _) | (with_reducible refine Kd.C_drewN ?_ _) | (with_reducible refine Kd.C_drew ?_))); (case side4 => exact HC448_0.out); rintro e w' ⟨rfl, ⟨nd, rfl⟩⟩; refine ⟨_, rfl, ?_⟩) | ((with_reducible refine gate_builtin (b := .append) (xs := #[.tmp 20, .tmp 22]) rfl ?_); at_builtin; refine Kd.N_append (own b_ 43 k43) (w0 := w) w.heap.size rfl (.tmp 20) (.tmp 22) 28 40 (.slice none 0 0) 24 rfl Try.underlying28 info40 rfl (Nat.lt_succ_self 0) (by omega) u5 x5_1 (rd_L2 l0 x11_1) [.slice A448_0 (rd_L2 l0 x11_1).length c448_0] (fun k_ => (P0_ k_ ∨ w.heap.size ≤ k_) ∧ some k_ ≠ (.slice Ao13 t449.length co13 : Value).ownBlock) (fun k_ => ((fun k_ => (P0_ k_ ∨ w.heap.size ≤ k_) ∧ some k_ ≠ (.slice Ao13 t449.length co13 : Value).ownBlock)) k_ ∧ some k_ ≠ (u5 : Value).ownBlock) rfl rfl ?aP (fun _ hk => hk) ?aF ?aO ?aB ?aS ?aL ?_; (case aP => first | exact OV_mono (OV_drewN HL448_0.out _) (fun k_ hk => ⟨⟨hk.1.1, hk.2⟩, hk.1.2⟩) | exact OV_mono HL448_0.out (fun k_ hk => ⟨⟨hk.1.1, hk.2⟩, hk.1.2⟩) | exact OV_mono (OV_alloc (OV_drewN HL448_0.out _) _) (fun k_ hk => ⟨⟨hk.1.1, hk.2⟩, hk.1.2⟩)); (case aB => exact zb); (case aF => exact (fun k_ hk => ⟨(.inr (Nat.le_trans (below_size zb) hk)), Kd.fresh' (Kd.R_lt (mR_ HO451.out)) k_ hk⟩)); (case aO => exact (mN_ HO_5.out)); (case aS => exact (below_size zb)); (case aL => have := LMc11.out; omega); intro v454 w14 ho hb hg hat; rw [← Ny453.out] at ho; have n0_ := aM (Kd.V_afterv (ok := (fun k_ => (P0_ k_ ∨ w.heap.size ≤ k_) ∧ some k_ ≠ (.slice Ao13 t449.length co13 : Value).ownBlock)) (zd6 HO_9.out) hg hat); have n1_ := aM (OV_after (ok := (fun k_ => (P0_ k_ ∨ w.heap.size ≤ k_) ∧ some k_ ≠ (.slice Ao13 t449.length co13 : Value).ownBlock)) (by (with_reducible repeat (first | apply OV_alloc | apply OV_drewN | apply OV_drew)); exact OV_mono HL448_0.out (fun _ hk => ⟨⟨hk.1.1, hk.2⟩, hk.1.2⟩)) hg hat); have n2_ := aM (Kd.R_over' (mR_ HO451.out) (Kd.N_typed (mN_ HO_5.out)) (by decide) hg); have n3_ := aM (hb); have n4_ := aM (ho); clear HO_9 HL448_0 HO451 HB HO_5; have HO_9 := n0_; have HL448_0 := n1_; have HO451 := n2_; have HB := n3_; have HO455 := n4_; clear n0_ n1_ n2_ n3_ n4_; clear ho hb hg hat))
   go_roundg k1
   case measure => have := HK1.out; omega
   case rel => exact ⟨(y453), (wrap64 (x11_1 + 1)), zr, H', ⟨by have := HK1.out; omega⟩, ⟨zd8 HO455.out⟩, ⟨zd7 HO_9.out⟩, ⟨zb⟩⟩
def impl_Solids.f (k : Nat) (a0 : Int) (a1 : Bool) : Option ((List (List (S43))) × Int) := (impl_within.f a0 1 4).bind fun t494 => (if t494 = true then ((impl_allSolids.f k a0).bind fun t495 => ((impl_ownSolids.f k t495 a1).bind fun t498 => (some (t498, 0)))) else (some (([] : List (List (S43))), 2)))
theorem impl_Solids.calls (k : Nat) (a0 : Int) (a1 : Bool) (r1 : List (List (S43))) (r2 : Int) (w : World) (h : impl_Solids.f k a0 a1 = some (r1, r2)) :
  Calls Try.prog 10 #[.int .i64 a0, .bool a1] w fun e w' => ∃ v0_ : Value, e = .returned (.tuple #[v0_, .int .i64 r2]) ∧ Kd.S (Kd.slice 43 k43) 40 w' w.heap.size (fun _ => True) v0_ r1 ∧ Below w.heap.size w w' := by
 have HB := aM (Below.refl w.heap.size w)
 have H : ((impl_within.f a0 1 4).bind fun t494 => (if t494 = true then ((impl_allSolids.f k a0).bind fun t495 => ((impl_ownSolids.f k t495 a1).bind fun t498 => (some (t498, 0)))) else (some (([] : List (List (S43))), 2)))) = some (r1, r2) := h
 clear h
 replace H := Option.bind_eq_some_iff.mp H
 obtain ⟨t494, A30, H⟩ := H
 replace H : (if t494 = true then ((impl_allSolids.f k a0).bind fun t495 => ((impl_ownSolids.f k t495 a1).bind fun t498 => (some (t498, 0)))) else (some (([] : List (List (S43))), 2))) = some (r1, r2) := H
 have A3 := aM A30
 clear A30
 by_cases c4 : t494 = true
 rotate_left
 ·replace c4 := Bool.eq_false_iff.mpr c4
  subst c4
  have H1 : (some (([] : List (List (S43))), 2)) = some (r1, r2) := by rw [if_neg (show ¬ (false = true) by decide)] at H; exact H
  clear H
  have H := H1
  clear H1
  simp only [Option.some.injEq, Prod.mk.injEq] at H
  obtain ⟨rfl, rfl⟩ := H
  go_enter Try.func10, Try.ntmps10
  go_wp2_with (first | ((with_reducible refine gate_callee (f := 18) rfl ?_); refine goesL_ (some 7) rfl rfl Try.func18 (by kernel_rfl) rfl #[.int .i64 a0, .int .i64 1, .int .i64 4] rfl zm ?_; (with_reducible refine (impl_within.calls a0 1 4 false _ A3.out).mono ?_); rintro e w' ⟨rfl, ⟨nd, rfl⟩⟩; refine ⟨_, rfl, ?_⟩))
  go_ret2
  exact ⟨_, zw, by first | exact Kd.S_nil _ _ _ _ _ | exact Kd.N_nil _ _ _ _ _ | exact Kd.V_nil _ _ _ _ _ | exact Kd.Q_nil _ _ _ _ _ | exact Kd.R_nil _ _ _ _ _, zb⟩
 subst c4
 have H1 : ((impl_allSolids.f k a0).bind fun t495 => ((impl_ownSolids.f k t495 a1).bind fun t498 => (some (t498, 0)))) = some (r1, r2) := by rw [if_pos rfl] at H; exact H
 clear H
 have H := H1
 clear H1
 replace H := Option.bind_eq_some_iff.mp H
 obtain ⟨t495, A50, H⟩ := H
 replace H : ((impl_ownSolids.f k t495 a1).bind fun t498 => (some (t498, 0))) = some (r1, r2) := H
 have A5 := aM A50
 clear A50
 replace H := Option.bind_eq_some_iff.mp H
 obtain ⟨t498, A60, H⟩ := H
 replace H : (some (t498, 0)) = some (r1, r2) := H
 have A6 := aM A60
 clear A60
 simp only [Option.some.injEq, Prod.mk.injEq] at H
 obtain ⟨rfl, rfl⟩ := H
 go_enter Try.func10, Try.ntmps10
 go_wp2_with (first | ((with_reducible refine gate_callee (f := 18) rfl ?_); refine goesL_ (some 7) rfl rfl Try.func18 (by kernel_rfl) rfl #[.int .i64 a0, .int .i64 1, .int .i64 4] rfl zm ?_; (with_reducible refine (impl_within.calls a0 1 4 true _ A3.out).mono ?_); rintro e w' ⟨rfl, ⟨nd, rfl⟩⟩; refine ⟨_, rfl, ?_⟩) | ((with_reducible refine gate_callee (f := 19) rfl ?_); refine goesL_ (some 10) rfl rfl Try.func19 (by kernel_rfl) rfl #[.int .i64 a0] rfl zm ?_; (with_reducible refine (impl_allSolids.calls k a0 t495 _ A5.out).mono ?_); rintro e w7 ⟨v496, rfl, ho0, hb⟩; refine ⟨_, rfl, ?_⟩; have n0_ := aM (VO_low (Kd.V_mono (ok' := fun k_ => True) ho0 (fun k_ hk_ => trivial)) (below_size zb)); have n1_ := aM (below_step zb hb); clear HB; have HO497 := n0_; have HB := n1_; clear n0_ n1_; (try clear hb); (try clear hb2); (try clear hk); (try clear hi); (try clear ho0); obtain ⟨Ao8, co8, eo8⟩ := Kd.V_slice HO497.out; subst eo8) | ((with_reducible refine gate_callee (f := 20) rfl ?_); refine goesL_ (some 12) rfl rfl Try.func20 (by kernel_rfl) rfl #[.slice Ao8 t495.length co8, .bool a1] rfl zm ?_; (with_reducible refine (impl_ownSolids.calls k (fun k_ => True) _ _ t495 a1 t498 _ (b_ := w.heap.size) (below_size zb) ?side1 A6.out).mono ?_); (case side1 => exact HO497.out); rintro e w9 ⟨v499, rfl, ho0, hb⟩; refine ⟨_, rfl, ?_⟩; have n0_ := aM (Kd.V_below (mV_ HO497.out) hb); have n1_ := aM (Kd.S_mono (ok' := fun k_ => True) ho0 (fun _ hk_ => trivial)); have n2_ := aM (below_step zb hb); clear HO497 HB; have HO497 := n0_; have HO500 := n1_; have HB := n2_; clear n0_ n1_ n2_; (try clear hb); (try clear hb2); (try clear hk); (try clear hi); (try clear ho0)))
 go_ret2
 exact ⟨_, zw, mS_ HO500.out, zb⟩
def spec_l09Insert.l0 : Nat → List (List (S43)) → List (S43) → Int → Option ((List (List (S43))))
 | 0, _, _, _ => none
 | k + 1, x0, x1, x5 => if x5 < (x0.length : Int) then (if 0 ≤ x5 then ((spec_l09Compare.f k (rd_L2 x0 x5) x1).bind fun t118 => (if t118 < 0 then (spec_l09Insert.l0 k x0 x1 (wrap64 (x5 + 1))) else ((spec_l09Compare.f k (rd_L2 x0 x5) x1).bind fun t120 => (if t120 = 0 then (some x0) else ((some (([] : List (List (S43))) : List (List (S43)))).bind fun y121 => (if x5 ≤ (x0.length : Int) then ((some (x0.take (x5 : Int).toNat : List (List (S43)))).bind fun y124 => (if y121.length + y124.length < 5864062014805 then ((some (y121 ++ y124 : List (List (S43)))).bind fun y129 => ((some (([x1] : List (List (S43))) : List (List (S43)))).bind fun y132 => (if y129.length + y132.length < 5864062014805 then ((some (y129 ++ y132 : List (List (S43)))).bind fun y135 => ((some (x0.drop (x5 : Int).toNat : List (List (S43)))).bind fun y138 => (if y135.length + y138.length < 5864062014805 then (some (y135 ++ y138)) else (none)))) else (none)))) else (none))) else (none))))))) else (none)) else ((some (([] : List (List (S43))) : List (List (S43)))).bind fun y146 => (if 0 ≤ x5 then (if x5 ≤ (x0.length : Int) then ((some (x0.take (x5 : Int).toNat : List (List (S43)))).bind fun y149 => (if y146.length + y149.length < 5864062014805 then ((some (y146 ++ y149 : List (List (S43)))).bind fun y154 => ((some (([x1] : List (List (S43))) : List (List (S43)))).bind fun y157 => (if y154.length + y157.length < 5864062014805 then ((some (y154 ++ y157 : List (List (S43)))).bind fun y160 => ((some (x0.drop (x5 : Int).toNat : List (List (S43)))).bind fun y163 => (if y160.length + y163.length < 5864062014805 then (some (y160 ++ y163)) else (none)))) else (none)))) else (none))) else (none)) else (none)))
def spec_l09Insert.f (k : Nat) (l0 : List (List (S43))) (l1 : List (S43)) : Option ((List (List (S43)))) := spec_l09Insert.l0 k l0 l1 0
def spec_l09Insert.T6 : Bool × List (List Nat × List Nat) := (true, [([], []), ([], []), ([], []), ([1, 2], [1, 2]), ([0, 3], [0, 3]), ([], []), ([5], [5]), ([4, 6, 4], [4, 6]), ([], []), ([], []), ([8, 9], [8, 9]), ([7, 10, 7], [7, 10]), ([11, 11, 0, 1, 2, 3, 4, 5, 6, 7, 8, 9, 10, 11], [11])])
def spec_l09Insert.B6 : List Nat := [0, 0, 0, 6, 15, 0, 32, 127, 0, 0, 768, 2047, 4095]
theorem spec_l09Insert.tab6 : rtab .any (opsOf Try.f28 6) = spec_l09Insert.T6 := by kernel_rfl
theorem spec_l09Insert.bits6 : waitsOk spec_l09Insert.T6.2 spec_l09Insert.B6 = true := by kernel_rfl
theorem spec_l09Insert.calls (k : Nat) (P0_ : Nat → Prop) (A0 : Option Addr) (c0 : Nat) (l0 : List (List (S43))) (P1_ : Nat → Prop) (A1 : Option Addr) (c1 : Nat) (l1 : List (S43)) (r : List (List (S43))) (w : World) (hs0 : Kd.V (Kd.slice 43 k43) 40 w w.heap.size (fun k_ => P0_ k_) (.slice A0 l0.length c0) l0) (hs1 : Kd.V k43 43 w w.heap.size (fun k_ => P1_ k_) (.slice A1 l1.length c1) l1) (h : spec_l09Insert.f k l0 l1 = some r) :
  Calls Try.prog 28 #[.slice A0 l0.length c0, .slice A1 l1.length c1] w fun e w' => ∃ v0_ : Value, e = .returned (v0_) ∧ Kd.V (Kd.slice 43 k43) 40 w' w.heap.size (fun k_ => ((P0_ k_ ∨ P1_ k_) ∨ w.heap.size ≤ k_)) v0_ r ∧ Below w.heap.size w w' := by
 have HO0 := aM (show Kd.V (Kd.slice 43 k43) 40 w w.heap.size (fun k_ => ((P0_ k_ ∨ P1_ k_) ∨ w.heap.size ≤ k_)) (.slice A0 l0.length c0) l0 from Kd.V_mono hs0 (fun k_ hk => .inl (.inl hk)))
 have HO1 := aM (show Kd.V k43 43 w w.heap.size (fun k_ => ((P0_ k_ ∨ P1_ k_) ∨ w.heap.size ≤ k_)) (.slice A1 l1.length c1) l1 from Kd.V_mono hs1 (fun k_ hk => .inl (.inr hk)))
 have HB := aM (Below.refl w.heap.size w)
 have H : (spec_l09Insert.l0 k l0 l1 0) = some r := h
 clear h
 have H' := aM H
 clear H
 go_enter Try.func28, Try.ntmps28
 go_wp2
 go_loopg [5] k (fun kq v5 w' => ∃ (x5_1 : Int), v5 = .int .i64 x5_1 ∧ Aside0 (spec_l09Insert.l0 kq l0 l1 x5_1 = some r) ∧ Aside0 (kq ≤ k) ∧ Aside0 (Kd.V (Kd.slice 43 k43) 40 w' w.heap.size (fun k_ => ((P0_ k_ ∨ P1_ k_) ∨ w.heap.size ≤ k_)) (.slice A0 l0.length c0) l0) ∧ Aside0 (Kd.V k43 43 w' w.heap.size (fun k_ => ((P0_ k_ ∨ P1_ k_) ∨ w.heap.size ≤ k_)) (.slice A1 l1.length c1) l1) ∧ Aside0 (Below w.heap.size w w'))
 case atStart => exact ⟨(0), zr, H', ⟨Nat.le_refl _⟩, ⟨mV_ HO0.out⟩, ⟨mV_ HO1.out⟩, ⟨zb⟩⟩
 case round =>
  clear H'
  try clear c1
  try clear c2
  try clear p2
  obtain ⟨x5_1, rfl, HA, HK1, HO_0, HO_1, HB⟩ := hrel
  cases gk with
  | zero => exact absurd HA.out (by simp [spec_l09Insert.l0])
  | succ k1 =>
   have H := HA.out
   clear HA
   simp only [spec_l09Insert.l0] at H
   by_cases c3 : x5_1 < (l0.length : Int)
   rotate_left
   ·rw [if_neg c3] at H
    have c3b0 : decide (x5_1 < (l0.length : Int)) = false := decide_eq_false c3
    clear c3
    obtain ⟨y146, hy146⟩ : ∃ y_ : List (List (S43)), y_ = (([] : List (List (S43)))) := ⟨_, rfl⟩
    replace H : (if 0 ≤ x5_1 then (if x5_1 ≤ (l0.length : Int) then ((some (l0.take (x5_1 : Int).toNat : List (List (S43)))).bind fun y149 => (if y146.length + y149.length < 5864062014805 then ((some (y146 ++ y149 : List (List (S43)))).bind fun y154 => ((some (([l1] : List (List (S43))) : List (List (S43)))).bind fun y157 => (if y154.length + y157.length < 5864062014805 then ((some (y154 ++ y157 : List (List (S43)))).bind fun y160 => ((some (l0.drop (x5_1 : Int).toNat : List (List (S43)))).bind fun y163 => (if y160.length + y163.length < 5864062014805 then (some (y160 ++ y163)) else (none)))) else (none)))) else (none))) else (none)) else (none)) = some r := zy H hy146
    have Ny146 := aM hy146
    clear hy146
    by_cases c33 : 0 ≤ x5_1
    rotate_left
    ·rw [if_neg c33] at H
     exact absurd H (by simp)
    rw [if_pos c33] at H
    have c33b0 := eq_true c33
    have c33b1 : decide (0 ≤ x5_1) = true := decide_eq_true c33
    clear c33
    by_cases c34 : x5_1 ≤ (l0.length : Int)
    rotate_left
    ·rw [if_neg c34] at H
     exact absurd H (by simp)
    rw [if_pos c34] at H
    have c34b0 := eq_true c34
    have c34b1 : decide (x5_1 ≤ (l0.length : Int)) = true := decide_eq_true c34
    clear c34
    obtain ⟨y149, hy149⟩ : ∃ y_ : List (List (S43)), y_ = (l0.take (x5_1 : Int).toNat) := ⟨_, rfl⟩
    replace H : (if y146.length + y149.length < 5864062014805 then ((some (y146 ++ y149 : List (List (S43)))).bind fun y154 => ((some (([l1] : List (List (S43))) : List (List (S43)))).bind fun y157 => (if y154.length + y157.length < 5864062014805 then ((some (y154 ++ y157 : List (List (S43)))).bind fun y160 => ((some (l0.drop (x5_1 : Int).toNat : List (List (S43)))).bind fun y163 => (if y160.length + y163.length < 5864062014805 then (some (y160 ++ y163)) else (none)))) else (none)))) else (none)) = some r := zy H hy149
    have Ny149 := aM hy149
    clear hy149
    by_cases c35 : y146.length + y149.length < 5864062014805
    rotate_left
    ·rw [if_neg c35] at H
     exact absurd H (by simp)
    rw [if_pos c35] at H
    have LMc35 := aM c35
    clear c35
    obtain ⟨y154, hy154⟩ : ∃ y_ : List (List (S43)), y_ = (y146 ++ y149) := ⟨_, rfl⟩
    replace H : ((some (([l1] : List (List (S43))) : List (List (S43)))).bind fun y157 => (if y154.length + y157.length < 5864062014805 then ((some (y154 ++ y157 : List (List (S43)))).bind fun y160 => ((some (l0.drop (x5_1 : Int).toNat : List (List (S43)))).bind fun y163 => (if y160.length + y163.length < 5864062014805 then (some (y160 ++ y163)) else (none)))) else (none))) = some r := zy H hy154
    have Ny154 := aM hy154
    clear hy154
    obtain ⟨y157, hy157⟩ : ∃ y_ : List (List (S43)), y_ = (([l1] : List (List (S43)))) := ⟨_, rfl⟩
    replace H : (if y154.length + y157.length < 5864062014805 then ((some (y154 ++ y157 : List (List (S43)))).bind fun y160 => ((some (l0.drop (x5_1 : Int).toNat : List (List (S43)))).bind fun y163 => (if y160.length + y163.length < 5864062014805 then (some (y160 ++ y163)) else (none)))) else (none)) = some r := zy H hy157
    have Ny157 := aM hy157
    clear hy157
    by_cases c36 : y154.length + y157.length < 5864062014805
    rotate_left
    ·rw [if_neg c36] at H
     exact absurd H (by simp)
    rw [if_pos c36] at H
    have LMc36 := aM c36
    clear c36
    obtain ⟨y160, hy160⟩ : ∃ y_ : List (List (S43)), y_ = (y154 ++ y157) := ⟨_, rfl⟩
    replace H : ((some (l0.drop (x5_1 : Int).toNat : List (List (S43)))).bind fun y163 => (if y160.length + y163.length < 5864062014805 then (some (y160 ++ y163)) else (none))) = some r := zy H hy160
    have Ny160 := aM hy160
    clear hy160
    have c37b0 := eq_true (of_decide_eq_true za : 0 ≤ x5_1)
    have c38b0 := eq_true (of_decide_eq_true za : x5_1 ≤ (l0.length : Int))
    obtain ⟨y163, hy163⟩ : ∃ y_ : List (List (S43)), y_ = (l0.drop (x5_1 : Int).toNat) := ⟨_, rfl⟩
    replace H : (if y160.length + y163.length < 5864062014805 then (some (y160 ++ y163)) else (none)) = some r := zy H hy163
    have Ny163 := aM hy163
    clear hy163
    by_cases c39 : y160.length + y163.length < 5864062014805
    rotate_left
    ·rw [if_neg c39] at H
     exact absurd H (by simp)
    rw [if_pos c39] at H
    have LMc39 := aM c39
    clear c39
    obtain ⟨y168, hy168⟩ : ∃ y_ : List (List (S43)), y_ = (y160 ++ y163) := ⟨_, rfl⟩
    replace H : (some y168) = some r := zy H hy168
    have Ny168 := aM hy168
    clear hy168
    obtain rfl := Option.some.inj H
    try go_wp2
    have n0_ := aM (Kd.V_drew HO_0.out)
    have n1_ := aM (Kd.V_drew HO_1.out)
    have n2_ := aM (below_drew1 HB.out)
    clear HO_0
    clear HO_1
    clear HB
    have HO_0 := n0_
    have HO_1 := n1_
    have HB := n2_
    clear n0_ n1_ n2_
    have q41 : (x5_1 : Int) ≤ ((l0.length : Int) : Int) := of_decide_eq_true za
    obtain ⟨i041, hi041, _, hsz41, _⟩ := info_parts info40
    have hroom41 : l0.length ≤ c0 := (Kd.V_reads' HO_0.out).2.1
    have hC41 : Kd.F (Kd.slice 43 k43) _ _ A0 l0.length l0 := (Kd.V_at (base := w.heap.size) HO_0.out).2.2
    have hcut41 := cut_to (P := Try.prog) 28 40 .i64 Try.underlying28 hi041 A0 l0.length c0 x5_1 (of_decide_eq_true za) q41 hroom41
    have hr41 := Kd.F_take (m := (x5_1 : Int).toNat) hC41 (by omega)
    have hy41 : y149.length = (x5_1 : Int).toNat := (by rw [Ny149.out, List.length_take]; omega)
    rw [← Ny149.out] at hr41
    rw [← hy41] at hcut41
    have HO153 := aM (show Kd.V (Kd.slice 43 k43) 40 _ w.heap.size _ (.slice A0 y149.length c0) y149 from Kd.V_mk (by omega) hr41)
    have HC153 := aM (show y149.length ≤ c0 from by omega)
    clear hr41 hC41 hroom41 hi041 hsz41
    have KY41 := aM hy41
    clear hy41
    replace q41 := eq_true q41
    have q42 : (x5_1 : Int) ≤ ((l0.length : Int) : Int) := of_decide_eq_true za
    obtain ⟨i042, hi042, _, hsz42, _⟩ := info_parts info40
    have hroom42 : l0.length ≤ c0 := (Kd.V_reads' HO_0.out).2.1
    have hC42 : Kd.F (Kd.slice 43 k43) _ _ A0 l0.length l0 := (Kd.V_at (base := w.heap.size) HO_0.out).2.2
    have q042 : (0 : Int) ≤ (x5_1 : Int) := of_decide_eq_true za
    have hcut42 := cut_from (P := Try.prog) 28 40 .i64 Try.underlying28 hi042 1 hsz42 A0 l0.length c0 x5_1 q042 q42
    have hr42 := Kd.F_cut (m := (x5_1 : Int).toNat) (c := c0) hC42 (by omega) hroom42
    obtain ⟨A42, hA42⟩ : ∃ A1, A1 = (if c0 = (x5_1 : Int).toNat then A0 else (A0 : Option Addr).map (·.add ((x5_1 : Int).toNat * 1))) := ⟨_, rfl⟩
    obtain ⟨c42, hc42⟩ : ∃ c1, c1 = c0 - (x5_1 : Int).toNat := ⟨_, rfl⟩
    have hy42 : y163.length = l0.length - (x5_1 : Int).toNat := (by rw [Ny163.out, List.length_drop] <;> omega)
    rw [show (l0).drop (x5_1 : Int).toNat = y163 from Ny163.out.symm] at hr42
    replace hr42 : Kd.F (Kd.slice 43 k43) _ _ A42 y163.length y163 := (by rw [hA42]; exact hr42)
    rw [← hy42, ← hA42, ← hc42] at hcut42
    have HO167 := aM (show Kd.V (Kd.slice 43 k43) 40 _ w.heap.size _ (.slice A42 y163.length c42) y163 from Kd.V_mk (by rw [hy42, hc42]; exact Nat.sub_le_sub_right hroom42 _) hr42)
    have HC167 := aM (show y163.length ≤ c42 from by rw [hy42, hc42]; exact Nat.sub_le_sub_right hroom42 _)
    clear hr42 hC42 hroom42 hi042 hsz42 hc42
    have KY42 := aM hy42
    have KA42 := aM hA42
    clear hy42 hA42
    replace q42 := eq_true q42
    refine start_ (n := 13) (S := fun w' => True) (ds := []) zA54 (by kernel_rfl) rfl rfl trivial (fun hHeld => ?_); refine with_tabW spec_l09Insert.tab6 spec_l09Insert.bits6 (fun HT_ HW_ => ?_)
    generalize wr.drew = w40 at HO_0 HO_1 HB HO153 HO167 hHeld ⊢
    refine zp 1 (some 36) ?_ zA68 rfl rfl (Or.inl ⟨by rfl, ?_⟩) ?_ ?_ ?_
    rotate_left
    ·intro w'
     go_simp
     with_reducible rfl
    rotate_left
    ·simp only [Act.put, xA, xB, xC, i64_w, i32_w]
     rfl
    refine zp 2 (some 37) ?_ zA69 rfl rfl (Or.inl ⟨by rfl, ?_⟩) ?_ ?_ ?_
    rotate_left
    ·intro w'
     go_simp
     with_reducible rfl
    rotate_left
    ·simp only [Act.put, xA, xB, xC, i64_w, i32_w]
     rfl
    refine zp 3 (some 38) ?_ zA70 rfl rfl (Or.inl ⟨by rfl, ?_⟩) ?_ ?_ ?_
    rotate_left
    ·intro w'
     go_simp
     with_reducible rfl
    rotate_left
    ·simp only [Act.put, xA, xB, xC, i64_w, i32_w]
     rfl
    refine zp 5 (some 40) ?_ zA71 rfl rfl (Or.inl ⟨by rfl, ?_⟩) ?_ ?_ ?_
    rotate_left
    ·intro w'
     go_simp
     with_reducible rfl
    rotate_left
    ·simp only [Act.put, xA, xB, xC, i64_w, i32_w]
     rfl
    refine zp 8 (some 43) ?_ zA72 rfl rfl (Or.inl ⟨by rfl, ?_⟩) ?_ ?_ ?_
    rotate_left
    ·intro w'
     go_simp
     with_reducible rfl
    rotate_left
    ·simp only [Act.put, xA, xB, xC, i64_w, i32_w]
     rfl
    refine zp 9 (some 44) ?_ zA73 rfl rfl (Or.inl ⟨by rfl, ?_⟩) ?_ ?_ ?_
    rotate_left
    ·intro w'
     go_simp
     with_reducible rfl
    rotate_left
    ·simp only [Act.put, xA, xB, xC, i64_w, i32_w]
     rfl
    refine zp 10 (some 45) ?_ zA74 rfl rfl (Or.inl ⟨by rfl, ?_⟩) ?_ ?_ ?_
    rotate_left
    ·intro w'
     go_simp
     with_reducible rfl
    rotate_left
    ·simp only [Act.put, xA, xB, xC, i64_w, i32_w]
     rfl
    refine join_ (σ := Value × Value × Value) 3 zA75 (fun s_ => [(35, s_.1), (39, s_.2.1), (41, s_.2.2)]) (fun s_ w' => (Kd.V (Kd.slice 43 k43) 40 w' w.heap.size (fun k_ => ((P0_ k_ ∨ P1_ k_) ∨ w.heap.size ≤ k_) ∧ some k_ ≠ (s_.2.1 : Value).ownBlock ∧ some k_ ≠ (s_.2.2 : Value).ownBlock) (.slice A0 y149.length c0) y149) ∧ (Kd.N (Kd.slice 43 k43) 40 w' w.heap.size (fun k_ => ((P0_ k_ ∨ P1_ k_) ∨ w.heap.size ≤ k_) ∧ some k_ ≠ (s_.2.2 : Value).ownBlock) s_.2.1 y154) ∧ (Kd.N (Kd.slice 43 k43) 40 w' w.heap.size (fun k_ => ((P0_ k_ ∨ P1_ k_) ∨ w.heap.size ≤ k_) ∧ some k_ ≠ (s_.2.1 : Value).ownBlock) s_.2.2 y157) ∧ (Kd.V (Kd.slice 43 k43) 40 w' w.heap.size (fun k_ => ((P0_ k_ ∨ P1_ k_) ∨ w.heap.size ≤ k_) ∧ some k_ ≠ (s_.2.1 : Value).ownBlock ∧ some k_ ≠ (s_.2.2 : Value).ownBlock) (.slice A42 y163.length c42) y163) ∧ (Kd.V (Kd.slice 43 k43) 40 w' w.heap.size (fun k_ => ((P0_ k_ ∨ P1_ k_) ∨ w.heap.size ≤ k_) ∧ some k_ ≠ (s_.2.1 : Value).ownBlock ∧ some k_ ≠ (s_.2.2 : Value).ownBlock) (.slice A0 l0.length c0) l0) ∧ (Kd.V k43 43 w' w.heap.size (fun k_ => ((P0_ k_ ∨ P1_ k_) ∨ w.heap.size ≤ k_) ∧ some k_ ≠ (s_.2.1 : Value).ownBlock ∧ some k_ ≠ (s_.2.2 : Value).ownBlock) (.slice A1 l1.length c1) l1) ∧ (Below w.heap.size w w')) ?_ ?_
    rotate_left
    ·intro hCont
     refine two_ (i := 0) (j := 6) (Ni := some 35) (Nj := some 41) zA76 zA77 rfl rfl rfl rfl (two_of HT_.out (by kernel_rfl)) (by decide) (by decide) (fun K hK => ?_) (fun K hK => ?_)
     ·skip
      refine Kd.N_lit_step (Kd.slice 43 k43) _ 40 ?hg (N' := 35) ?hd (xs := ([] : List (List (S43)))) (inner := []) (ok := (fun k_ => ((P0_ k_ ∨ P1_ k_) ∨ w.heap.size ≤ k_))) (okp := (fun k_ => ((P0_ k_ ∨ P1_ k_) ∨ w.heap.size ≤ k_))) ?hr ?hp (fun _ hk => hk) ((show ∀ k_, w40.heap.size ≤ k_ → (fun k_ => ((P0_ k_ ∨ P1_ k_) ∨ w.heap.size ≤ k_)) k_ from fun k_ hk => (.inr (Nat.le_trans (below_size zb) hk))) _ (Nat.le_refl _)) (Below.refl _ _) (Nat.le_refl _) (by simp) ?_; (case hd => rfl); (case hg => rfl); (case hr => first | (go_simp; done) | (go_simp; rfl)); (case hp => exact (Reps.none _ _))
      intro v147 w43 ho44 hb hg_ hnew_
      clear hg_ hnew_
      (first | rw [← Ny146.out] at ho44 | (simp only [Int.reduceToNat] at ho44; rw [← Ny146.out] at ho44))
      have n0_ := aM (Kd.V_elder' (mV_ HO_0.out) (by first | exact Kd.N_base ho44 | exact Kd.S_base ho44 | exact Kd.R_base ho44) hb)
      have n1_ := aM (Kd.V_elder' (mV_ HO_1.out) (by first | exact Kd.N_base ho44 | exact Kd.S_base ho44 | exact Kd.R_base ho44) hb)
      have n2_ := aM (Kd.V_elder' (mV_ HO153.out) (by first | exact Kd.N_base ho44 | exact Kd.S_base ho44 | exact Kd.R_base ho44) hb)
      have n3_ := aM (Kd.V_elder' (mV_ HO167.out) (by first | exact Kd.N_base ho44 | exact Kd.S_base ho44 | exact Kd.R_base ho44) hb)
      have n4_ := aM (Kd.N_lower ho44 (below_size zb))
      have n5_ := aM (below_step zb hb)
      clear HO_0
      clear HO_1
      clear HO153
      clear HO167
      clear HB
      have HO_0 := n0_
      have HO_1 := n1_
      have HO153 := n2_
      have HO167 := n3_
      have HO148 := n4_
      have HB := n5_
      clear n0_ n1_ n2_ n3_ n4_ n5_
      clear hb ho44
      refine hK.out _ _ trivial (fun hHeld => ?_)
      clear hK K
      refine norm_ (a' := ?_) ?_ ?_
      rotate_left
      ·show Act.put _ (some 35) _ = _
       simp only [Act.put, xA, xB, xC, i64_w, i32_w]
       rfl
      refine two_ (i := 4) (j := 6) (Ni := some 39) (Nj := some 41) zA78 zA79 rfl rfl rfl rfl (two_of HT_.out (by kernel_rfl)) (by decide) (by decide) (fun K hK => ?_) (fun K hK => ?_)
      ·skip
       refine Kd.N_append_rows_step (Kd.slice 43 k43) (w0 := w) w.heap.size (by rfl) (.tmp 35) (.tmp 38) 28 40 (.slice none 0 0) 24 rfl Try.underlying28 info40 rfl (by decide) (by omega) v147 y146 y149 _ _ _ (fun k_ => ((P0_ k_ ∨ P1_ k_) ∨ w.heap.size ≤ k_)) (fun k_ => ((fun k_ => ((P0_ k_ ∨ P1_ k_) ∨ w.heap.size ≤ k_))) k_ ∧ some k_ ≠ (v147 : Value).ownBlock) rfl rfl ?aO ?aR (fun _ hk => hk) ?aF ?aB ?aS ?aL ?_
       (case aR => exact (by skip; exact Kd.V_F (Kd.V_mono (ok' := (fun k_ => ((fun k_ => ((P0_ k_ ∨ P1_ k_) ∨ w.heap.size ≤ k_))) k_ ∧ some k_ ≠ (v147 : Value).ownBlock)) (HO153.out) (fun k_ hk => ⟨hk.1, hk.2⟩))))
       (case aB => exact zb)
       (case aF => exact (fun k_ hk => (.inr (Nat.le_trans (below_size zb) hk))))
       (case aO => exact (mN_ HO148.out))
       (case aS => exact (below_size zb))
       (case aL => have := LMc35.out; omega)
       intro v155 w45 ho hb hg hat
       rw [← Ny154.out] at ho
       have n0_ := aM (Kd.V_afterv (ok := (fun k_ => ((P0_ k_ ∨ P1_ k_) ∨ w.heap.size ≤ k_))) (mV_ HO_0.out) hg hat)
       have n1_ := aM (Kd.V_afterv (ok := (fun k_ => ((P0_ k_ ∨ P1_ k_) ∨ w.heap.size ≤ k_))) (mV_ HO_1.out) hg hat)
       have n2_ := aM (Kd.V_afterv (ok := (fun k_ => ((P0_ k_ ∨ P1_ k_) ∨ w.heap.size ≤ k_))) (mV_ HO153.out) hg hat)
       have n3_ := aM (Kd.V_afterv (ok := (fun k_ => ((P0_ k_ ∨ P1_ k_) ∨ w.heap.size ≤ k_))) (mV_ HO167.out) hg hat)
       have n4_ := aM (hb)
       have n5_ := aM (ho)
       clear HO_0
       clear HO_1
       clear HO153
       clear HO167
       clear HB
       clear HO148
       have HO_0 := n0_
       have HO_1 := n1_
       have HO153 := n2_
       have HO167 := n3_
       have HB := n4_
       have HO156 := n5_
       clear n0_ n1_ n2_ n3_ n4_ n5_
       clear ho hb hg hat
       refine hK.out _ _ trivial (fun hHeld => ?_)
       clear hK K
       refine norm_ (a' := ?_) ?_ ?_
       rotate_left
       ·show Act.put _ (some 39) _ = _
        simp only [Act.put, xA, xB, xC, i64_w, i32_w]
        rfl
       refine one_ (i := 6) (N := some 41) zA75 rfl rfl (one_of HT_.out (by kernel_rfl)) (by decide) (fun K hK => ?_)
       refine Kd.N_lit_step (Kd.slice 43 k43) _ 40 ?hg (N' := 41) ?hd (xs := ([l1] : List (List (S43)))) (inner := [.slice A1 l1.length c1]) (ok := (fun k_ => ((P0_ k_ ∨ P1_ k_) ∨ w.heap.size ≤ k_) ∧ some k_ ≠ (v155 : Value).ownBlock)) (okp := (fun k_ => ((P0_ k_ ∨ P1_ k_) ∨ w.heap.size ≤ k_) ∧ some k_ ≠ (v155 : Value).ownBlock)) ?hr ?hp (fun _ hk => hk) ((show ∀ k_, w45.heap.size ≤ k_ → (fun k_ => ((P0_ k_ ∨ P1_ k_) ∨ w.heap.size ≤ k_) ∧ some k_ ≠ (v155 : Value).ownBlock) k_ from fun k_ hk => ⟨(.inr (Nat.le_trans (below_size zb) hk)), Kd.fresh' (Kd.N_lt (mN_ HO156.out)) k_ hk⟩) _ (Nat.le_refl _)) (Below.refl _ _) (Nat.le_refl _) (by simp) ?_; (case hd => rfl); (case hg => rfl); (case hr => first | (go_simp; done) | (go_simp; rfl)); (case hp => exact (Reps.one (show Kd.FK (Kd.slice 43 k43) _ _ l1 [.slice A1 l1.length c1] from (Kd.FK_slice_mk (Kd.V_reads' (Kd.V_mono (ok' := (fun k_ => ((P0_ k_ ∨ P1_ k_) ∨ w.heap.size ≤ k_) ∧ some k_ ≠ (v155 : Value).ownBlock)) (HO_1.out) (fun k_ hk => ⟨hk.1, hk.2⟩))).2.1 (Kd.V_F (Kd.V_mono (ok' := (fun k_ => ((P0_ k_ ∨ P1_ k_) ∨ w.heap.size ≤ k_) ∧ some k_ ≠ (v155 : Value).ownBlock)) (HO_1.out) (fun k_ hk => ⟨hk.1, hk.2⟩))))) (Reps.none _ _)))
       intro v158 w46 ho47 hb hg_ hnew_
       clear hg_ hnew_
       (first | rw [← Ny157.out] at ho47 | (simp only [Int.reduceToNat] at ho47; rw [← Ny157.out] at ho47))
       have n0_ := aM (Kd.V_elder' (mV_ HO_0.out) (by first | exact Kd.N_base ho47 | exact Kd.S_base ho47 | exact Kd.R_base ho47) hb)
       have n1_ := aM (Kd.V_elder' (mV_ HO_1.out) (by first | exact Kd.N_base ho47 | exact Kd.S_base ho47 | exact Kd.R_base ho47) hb)
       have n2_ := aM (Kd.V_elder' (mV_ HO153.out) (by first | exact Kd.N_base ho47 | exact Kd.S_base ho47 | exact Kd.R_base ho47) hb)
       have n3_ := aM (Kd.V_elder' (mV_ HO167.out) (by first | exact Kd.N_base ho47 | exact Kd.S_base ho47 | exact Kd.R_base ho47) hb)
       have n4_ := aM (Kd.N_elder' (mN_ HO156.out) (by first | exact Kd.N_base ho47 | exact Kd.S_base ho47 | exact Kd.R_base ho47) hb)
       have n5_ := aM (Kd.N_lower ho47 (below_size zb))
       have n6_ := aM (below_step zb hb)
       clear HO_0
       clear HO_1
       clear HO153
       clear HO167
       clear HO156
       clear HB
       have HO_0 := n0_
       have HO_1 := n1_
       have HO153 := n2_
       have HO167 := n3_
       have HO156 := n4_
       have HO159 := n5_
       have HB := n6_
       clear n0_ n1_ n2_ n3_ n4_ n5_ n6_
       clear hb ho47
       refine hK.out _ _ trivial (fun hHeld => ?_)
       clear hK K
       refine norm_ (a' := ?_) ?_ ?_
       rotate_left
       ·show Act.put _ (some 41) _ = _
        simp only [Act.put, xA, xB, xC, i64_w, i32_w]
        rfl
       exact norm_ (by simp only [putAll, Act.put, xA, xB, xC]) (hCont (v147, v155, v158) _ ⟨(zd19 HO153.out), (mN_ HO156.out), (mN_ HO159.out), (zd19 HO167.out), (zd19 HO_0.out), (zd19 HO_1.out), zb⟩)
      ·skip
       refine Kd.N_lit_step (Kd.slice 43 k43) _ 40 ?hg (N' := 41) ?hd (xs := ([l1] : List (List (S43)))) (inner := [.slice A1 l1.length c1]) (ok := (fun k_ => ((P0_ k_ ∨ P1_ k_) ∨ w.heap.size ≤ k_) ∧ some k_ ≠ (v147 : Value).ownBlock)) (okp := (fun k_ => ((P0_ k_ ∨ P1_ k_) ∨ w.heap.size ≤ k_) ∧ some k_ ≠ (v147 : Value).ownBlock)) ?hr ?hp (fun _ hk => hk) ((show ∀ k_, w43.heap.size ≤ k_ → (fun k_ => ((P0_ k_ ∨ P1_ k_) ∨ w.heap.size ≤ k_) ∧ some k_ ≠ (v147 : Value).ownBlock) k_ from fun k_ hk => ⟨(.inr (Nat.le_trans (below_size zb) hk)), Kd.fresh' (Kd.N_lt (mN_ HO148.out)) k_ hk⟩) _ (Nat.le_refl _)) (Below.refl _ _) (Nat.le_refl _) (by simp) ?_; (case hd => rfl); (case hg => rfl); (case hr => first | (go_simp; done) | (go_simp; rfl)); (case hp => exact (Reps.one (show Kd.FK (Kd.slice 43 k43) _ _ l1 [.slice A1 l1.length c1] from (Kd.FK_slice_mk (Kd.V_reads' (Kd.V_mono (ok' := (fun k_ => ((P0_ k_ ∨ P1_ k_) ∨ w.heap.size ≤ k_) ∧ some k_ ≠ (v147 : Value).ownBlock)) (HO_1.out) (fun k_ hk => ⟨hk.1, hk.2⟩))).2.1 (Kd.V_F (Kd.V_mono (ok' := (fun k_ => ((P0_ k_ ∨ P1_ k_) ∨ w.heap.size ≤ k_) ∧ some k_ ≠ (v147 : Value).ownBlock)) (HO_1.out) (fun k_ hk => ⟨hk.1, hk.2⟩))))) (Reps.none _ _)))
       intro v158 w45 ho46 hb hg_ hnew_
       clear hg_ hnew_
       (first | rw [← Ny157.out] at ho46 | (simp only [Int.reduceToNat] at ho46; rw [← Ny157.out] at ho46))
       have n0_ := aM (Kd.V_elder' (mV_ HO_0.out) (by first | exact Kd.N_base ho46 | exact Kd.S_base ho46 | exact Kd.R_base ho46) hb)
       have n1_ := aM (Kd.V_elder' (mV_ HO_1.out) (by first | exact Kd.N_base ho46 | exact Kd.S_base ho46 | exact Kd.R_base ho46) hb)
       have n2_ := aM (Kd.V_elder' (mV_ HO153.out) (by first | exact Kd.N_base ho46 | exact Kd.S_base ho46 | exact Kd.R_base ho46) hb)
       have n3_ := aM (Kd.V_elder' (mV_ HO167.out) (by first | exact Kd.N_base ho46 | exact Kd.S_base ho46 | exact Kd.R_base ho46) hb)
       have n4_ := aM (Kd.N_elder' (mN_ HO148.out) (by first | exact Kd.N_base ho46 | exact Kd.S_base ho46 | exact Kd.R_base ho46) hb)
       have n5_ := aM (Kd.N_lower ho46 (below_size zb))
       have n6_ := aM (below_step zb hb)
       clear HO_0
       clear HO_1
       clear HO153
       clear HO167
       clear HO148
       clear HB
       have HO_0 := n0_
       have HO_1 := n1_
       have HO153 := n2_
       have HO167 := n3_
       have HO148 := n4_
       have HO159 := n5_
       have HB := n6_
       clear n0_ n1_ n2_ n3_ n4_ n5_ n6_
       clear hb ho46
       refine hK.out _ _ trivial (fun hHeld => ?_)
       clear hK K
       refine norm_ (a' := ?_) ?_ ?_
       rotate_left
       ·show Act.put _ (some 41) _ = _
        simp only [Act.put, xA, xB, xC, i64_w, i32_w]
        rfl
       refine one_ (i := 4) (N := some 39) zA75 rfl rfl (one_of HT_.out (by kernel_rfl)) (by decide) (fun K hK => ?_)
       refine Kd.N_append_rows_step (Kd.slice 43 k43) (w0 := w) w.heap.size (by rfl) (.tmp 35) (.tmp 38) 28 40 (.slice none 0 0) 24 rfl Try.underlying28 info40 rfl (by decide) (by omega) v147 y146 y149 _ _ _ (fun k_ => ((P0_ k_ ∨ P1_ k_) ∨ w.heap.size ≤ k_) ∧ some k_ ≠ (v158 : Value).ownBlock) (fun k_ => ((fun k_ => ((P0_ k_ ∨ P1_ k_) ∨ w.heap.size ≤ k_) ∧ some k_ ≠ (v158 : Value).ownBlock)) k_ ∧ some k_ ≠ (v147 : Value).ownBlock) rfl rfl ?aO ?aR (fun _ hk => hk) ?aF ?aB ?aS ?aL ?_
       (case aR => exact (by skip; exact Kd.V_F (Kd.V_mono (ok' := (fun k_ => ((fun k_ => ((P0_ k_ ∨ P1_ k_) ∨ w.heap.size ≤ k_) ∧ some k_ ≠ (v158 : Value).ownBlock)) k_ ∧ some k_ ≠ (v147 : Value).ownBlock)) (HO153.out) (fun k_ hk => ⟨⟨hk.1.1, hk.2⟩, hk.1.2⟩))))
       (case aB => exact zb)
       (case aF => exact (fun k_ hk => ⟨(.inr (Nat.le_trans (below_size zb) hk)), Kd.fresh' (Kd.N_lt (mN_ HO159.out)) k_ hk⟩))
       (case aO => exact (mN_ HO148.out))
       (case aS => exact (below_size zb))
       (case aL => have := LMc35.out; omega)
       intro v155 w47 ho hb hg hat
       rw [← Ny154.out] at ho
       have n0_ := aM (Kd.V_afterv (ok := (fun k_ => ((P0_ k_ ∨ P1_ k_) ∨ w.heap.size ≤ k_) ∧ some k_ ≠ (v158 : Value).ownBlock)) (zd6 HO_0.out) hg hat)
       have n1_ := aM (Kd.V_afterv (ok := (fun k_ => ((P0_ k_ ∨ P1_ k_) ∨ w.heap.size ≤ k_) ∧ some k_ ≠ (v158 : Value).ownBlock)) (zd6 HO_1.out) hg hat)
       have n2_ := aM (Kd.V_afterv (ok := (fun k_ => ((P0_ k_ ∨ P1_ k_) ∨ w.heap.size ≤ k_) ∧ some k_ ≠ (v158 : Value).ownBlock)) (zd6 HO153.out) hg hat)
       have n3_ := aM (Kd.V_afterv (ok := (fun k_ => ((P0_ k_ ∨ P1_ k_) ∨ w.heap.size ≤ k_) ∧ some k_ ≠ (v158 : Value).ownBlock)) (zd6 HO167.out) hg hat)
       have n4_ := aM (Kd.N_afterv (ok := (fun k_ => ((P0_ k_ ∨ P1_ k_) ∨ w.heap.size ≤ k_))) (mN_ HO159.out) hg hat)
       have n5_ := aM (hb)
       have n6_ := aM (ho)
       clear HO_0
       clear HO_1
       clear HO153
       clear HO167
       clear HO159
       clear HB
       clear HO148
       have HO_0 := n0_
       have HO_1 := n1_
       have HO153 := n2_
       have HO167 := n3_
       have HO159 := n4_
       have HB := n5_
       have HO156 := n6_
       clear n0_ n1_ n2_ n3_ n4_ n5_ n6_
       clear ho hb hg hat
       refine hK.out _ _ trivial (fun hHeld => ?_)
       clear hK K
       refine norm_ (a' := ?_) ?_ ?_
       rotate_left
       ·show Act.put _ (some 39) _ = _
        simp only [Act.put, xA, xB, xC, i64_w, i32_w]
        rfl
       exact norm_ (by simp only [putAll, Act.put, xA, xB, xC]) (hCont (v147, v155, v158) _ ⟨(zd42 HO153.out), (mN_ HO156.out), (mN_ HO159.out), (zd42 HO167.out), (zd42 HO_0.out), (zd42 HO_1.out), zb⟩)
     ·skip
      refine Kd.N_lit_step (Kd.slice 43 k43) _ 40 ?hg (N' := 41) ?hd (xs := ([l1] : List (List (S43)))) (inner := [.slice A1 l1.length c1]) (ok := (fun k_ => ((P0_ k_ ∨ P1_ k_) ∨ w.heap.size ≤ k_))) (okp := (fun k_ => ((P0_ k_ ∨ P1_ k_) ∨ w.heap.size ≤ k_))) ?hr ?hp (fun _ hk => hk) ((show ∀ k_, w40.heap.size ≤ k_ → (fun k_ => ((P0_ k_ ∨ P1_ k_) ∨ w.heap.size ≤ k_)) k_ from fun k_ hk => (.inr (Nat.le_trans (below_size zb) hk))) _ (Nat.le_refl _)) (Below.refl _ _) (Nat.le_refl _) (by simp) ?_; (case hd => rfl); (case hg => rfl); (case hr => first | (go_simp; done) | (go_simp; rfl)); (case hp => exact (Reps.one (show Kd.FK (Kd.slice 43 k43) _ _ l1 [.slice A1 l1.length c1] from (Kd.FK_slice_mk (Kd.V_reads' (Kd.V_mono (ok' := (fun k_ => ((P0_ k_ ∨ P1_ k_) ∨ w.heap.size ≤ k_))) (HO_1.out) (fun k_ hk => hk))).2.1 (Kd.V_F (Kd.V_mono (ok' := (fun k_ => ((P0_ k_ ∨ P1_ k_) ∨ w.heap.size ≤ k_))) (HO_1.out) (fun k_ hk => hk))))) (Reps.none _ _)))
      intro v158 w43 ho44 hb hg_ hnew_
      clear hg_ hnew_
      (first | rw [← Ny157.out] at ho44 | (simp only [Int.reduceToNat] at ho44; rw [← Ny157.out] at ho44))
      have n0_ := aM (Kd.V_elder' (mV_ HO_0.out) (by first | exact Kd.N_base ho44 | exact Kd.S_base ho44 | exact Kd.R_base ho44) hb)
      have n1_ := aM (Kd.V_elder' (mV_ HO_1.out) (by first | exact Kd.N_base ho44 | exact Kd.S_base ho44 | exact Kd.R_base ho44) hb)
      have n2_ := aM (Kd.V_elder' (mV_ HO153.out) (by first | exact Kd.N_base ho44 | exact Kd.S_base ho44 | exact Kd.R_base ho44) hb)
      have n3_ := aM (Kd.V_elder' (mV_ HO167.out) (by first | exact Kd.N_base ho44 | exact Kd.S_base ho44 | exact Kd.R_base ho44) hb)
      have n4_ := aM (Kd.N_lower ho44 (below_size zb))
      have n5_ := aM (below_step zb hb)
      clear HO_0
      clear HO_1
      clear HO153
      clear HO167
      clear HB
      have HO_0 := n0_
      have HO_1 := n1_
      have HO153 := n2_
      have HO167 := n3_
      have HO159 := n4_
      have HB := n5_
      clear n0_ n1_ n2_ n3_ n4_ n5_
      clear hb ho44
      refine hK.out _ _ trivial (fun hHeld => ?_)
      clear hK K
      refine norm_ (a' := ?_) ?_ ?_
      rotate_left
      ·show Act.put _ (some 41) _ = _
       simp only [Act.put, xA, xB, xC, i64_w, i32_w]
       rfl
      refine one_ (i := 0) (N := some 35) zA79 rfl rfl (one_of HT_.out (by kernel_rfl)) (by decide) (fun K hK => ?_)
      refine Kd.N_lit_step (Kd.slice 43 k43) _ 40 ?hg (N' := 35) ?hd (xs := ([] : List (List (S43)))) (inner := []) (ok := (fun k_ => ((P0_ k_ ∨ P1_ k_) ∨ w.heap.size ≤ k_) ∧ some k_ ≠ (v158 : Value).ownBlock)) (okp := (fun k_ => ((P0_ k_ ∨ P1_ k_) ∨ w.heap.size ≤ k_) ∧ some k_ ≠ (v158 : Value).ownBlock)) ?hr ?hp (fun _ hk => hk) ((show ∀ k_, w43.heap.size ≤ k_ → (fun k_ => ((P0_ k_ ∨ P1_ k_) ∨ w.heap.size ≤ k_) ∧ some k_ ≠ (v158 : Value).ownBlock) k_ from fun k_ hk => ⟨(.inr (Nat.le_trans (below_size zb) hk)), Kd.fresh' (Kd.N_lt (mN_ HO159.out)) k_ hk⟩) _ (Nat.le_refl _)) (Below.refl _ _) (Nat.le_refl _) (by simp) ?_; (case hd => rfl); (case hg => rfl); (case hr => first | (go_simp; done) | (go_simp; rfl)); (case hp => exact (Reps.none _ _))
      intro v147 w45 ho46 hb hg_ hnew_
      clear hg_ hnew_
      (first | rw [← Ny146.out] at ho46 | (simp only [Int.reduceToNat] at ho46; rw [← Ny146.out] at ho46))
      have n0_ := aM (Kd.V_elder' (mV_ HO_0.out) (by first | exact Kd.N_base ho46 | exact Kd.S_base ho46 | exact Kd.R_base ho46) hb)
      have n1_ := aM (Kd.V_elder' (mV_ HO_1.out) (by first | exact Kd.N_base ho46 | exact Kd.S_base ho46 | exact Kd.R_base ho46) hb)
      have n2_ := aM (Kd.V_elder' (mV_ HO153.out) (by first | exact Kd.N_base ho46 | exact Kd.S_base ho46 | exact Kd.R_base ho46) hb)
      have n3_ := aM (Kd.V_elder' (mV_ HO167.out) (by first | exact Kd.N_base ho46 | exact Kd.S_base ho46 | exact Kd.R_base ho46) hb)
      have n4_ := aM (Kd.N_elder' (mN_ HO159.out) (by first | exact Kd.N_base ho46 | exact Kd.S_base ho46 | exact Kd.R_base ho46) hb)
      have n5_ := aM (Kd.N_lower ho46 (below_size zb))
      have n6_ := aM (below_step zb hb)
      clear HO_0
      clear HO_1
      clear HO153
      clear HO167
      clear HO159
      clear HB
      have HO_0 := n0_
      have HO_1 := n1_
      have HO153 := n2_
      have HO167 := n3_
      have HO159 := n4_
      have HO148 := n5_
      have HB := n6_
      clear n0_ n1_ n2_ n3_ n4_ n5_ n6_
      clear hb ho46
      refine hK.out _ _ trivial (fun hHeld => ?_)
      clear hK K
      refine norm_ (a' := ?_) ?_ ?_
      rotate_left
      ·show Act.put _ (some 35) _ = _
       simp only [Act.put, xA, xB, xC, i64_w, i32_w]
       rfl
      refine one_ (i := 4) (N := some 39) zA75 rfl rfl (one_of HT_.out (by kernel_rfl)) (by decide) (fun K hK => ?_)
      refine Kd.N_append_rows_step (Kd.slice 43 k43) (w0 := w) w.heap.size (by rfl) (.tmp 35) (.tmp 38) 28 40 (.slice none 0 0) 24 rfl Try.underlying28 info40 rfl (by decide) (by omega) v147 y146 y149 _ _ _ (fun k_ => ((P0_ k_ ∨ P1_ k_) ∨ w.heap.size ≤ k_) ∧ some k_ ≠ (v158 : Value).ownBlock) (fun k_ => ((fun k_ => ((P0_ k_ ∨ P1_ k_) ∨ w.heap.size ≤ k_) ∧ some k_ ≠ (v158 : Value).ownBlock)) k_ ∧ some k_ ≠ (v147 : Value).ownBlock) rfl rfl ?aO ?aR (fun _ hk => hk) ?aF ?aB ?aS ?aL ?_
      (case aR => exact (by skip; exact Kd.V_F (Kd.V_mono (ok' := (fun k_ => ((fun k_ => ((P0_ k_ ∨ P1_ k_) ∨ w.heap.size ≤ k_) ∧ some k_ ≠ (v158 : Value).ownBlock)) k_ ∧ some k_ ≠ (v147 : Value).ownBlock)) (HO153.out) (fun k_ hk => ⟨⟨hk.1.1, hk.1.2⟩, hk.2⟩))))
      (case aB => exact zb)
      (case aF => exact (fun k_ hk => ⟨(.inr (Nat.le_trans (below_size zb) hk)), Kd.fresh' (Kd.N_lt (mN_ HO159.out)) k_ hk⟩))
      (case aO => exact (mN_ HO148.out))
      (case aS => exact (below_size zb))
      (case aL => have := LMc35.out; omega)
      intro v155 w47 ho hb hg hat
      rw [← Ny154.out] at ho
      have n0_ := aM (Kd.V_afterv (ok := (fun k_ => ((P0_ k_ ∨ P1_ k_) ∨ w.heap.size ≤ k_) ∧ some k_ ≠ (v158 : Value).ownBlock)) (mV_ HO_0.out) hg hat)
      have n1_ := aM (Kd.V_afterv (ok := (fun k_ => ((P0_ k_ ∨ P1_ k_) ∨ w.heap.size ≤ k_) ∧ some k_ ≠ (v158 : Value).ownBlock)) (mV_ HO_1.out) hg hat)
      have n2_ := aM (Kd.V_afterv (ok := (fun k_ => ((P0_ k_ ∨ P1_ k_) ∨ w.heap.size ≤ k_) ∧ some k_ ≠ (v158 : Value).ownBlock)) (mV_ HO153.out) hg hat)
      have n3_ := aM (Kd.V_afterv (ok := (fun k_ => ((P0_ k_ ∨ P1_ k_) ∨ w.heap.size ≤ k_) ∧ some k_ ≠ (v158 : Value).ownBlock)) (mV_ HO167.out) hg hat)
      have n4_ := aM (Kd.N_afterv (ok := (fun k_ => ((P0_ k_ ∨ P1_ k_) ∨ w.heap.size ≤ k_))) (mN_ HO159.out) hg hat)
      have n5_ := aM (hb)
      have n6_ := aM (ho)
      clear HO_0
      clear HO_1
      clear HO153
      clear HO167
      clear HO159
      clear HB
      clear HO148
      have HO_0 := n0_
      have HO_1 := n1_
      have HO153 := n2_
      have HO167 := n3_
      have HO159 := n4_
      have HB := n5_
      have HO156 := n6_
      clear n0_ n1_ n2_ n3_ n4_ n5_ n6_
      clear ho hb hg hat
      refine hK.out _ _ trivial (fun hHeld => ?_)
      clear hK K
      refine norm_ (a' := ?_) ?_ ?_
      rotate_left
      ·show Act.put _ (some 39) _ = _
       simp only [Act.put, xA, xB, xC, i64_w, i32_w]
       rfl
      exact norm_ (by simp only [putAll, Act.put, xA, xB, xC]) (hCont (v147, v155, v158) _ ⟨(zd42 HO153.out), (mN_ HO156.out), (mN_ HO159.out), (zd42 HO167.out), (zd42 HO_0.out), (zd42 HO_1.out), zb⟩)
    rintro ⟨v147, v155, v158⟩ w48 ⟨h0_, h1_, h2_, h3_, h4_, h5_, h6_⟩
    have n0_ : Aside0 (Kd.V (Kd.slice 43 k43) 40 w48 w.heap.size (fun k_ => ((P0_ k_ ∨ P1_ k_) ∨ w.heap.size ≤ k_) ∧ some k_ ≠ (v155 : Value).ownBlock ∧ some k_ ≠ (v158 : Value).ownBlock) (.slice A0 y149.length c0) y149) := ⟨h0_⟩
    have n1_ : Aside0 (Kd.N (Kd.slice 43 k43) 40 w48 w.heap.size (fun k_ => ((P0_ k_ ∨ P1_ k_) ∨ w.heap.size ≤ k_) ∧ some k_ ≠ (v158 : Value).ownBlock) v155 y154) := ⟨h1_⟩
    have n2_ : Aside0 (Kd.N (Kd.slice 43 k43) 40 w48 w.heap.size (fun k_ => ((P0_ k_ ∨ P1_ k_) ∨ w.heap.size ≤ k_) ∧ some k_ ≠ (v155 : Value).ownBlock) v158 y157) := ⟨h2_⟩
    have n3_ : Aside0 (Kd.V (Kd.slice 43 k43) 40 w48 w.heap.size (fun k_ => ((P0_ k_ ∨ P1_ k_) ∨ w.heap.size ≤ k_) ∧ some k_ ≠ (v155 : Value).ownBlock ∧ some k_ ≠ (v158 : Value).ownBlock) (.slice A42 y163.length c42) y163) := ⟨h3_⟩
    have n4_ : Aside0 (Kd.V (Kd.slice 43 k43) 40 w48 w.heap.size (fun k_ => ((P0_ k_ ∨ P1_ k_) ∨ w.heap.size ≤ k_) ∧ some k_ ≠ (v155 : Value).ownBlock ∧ some k_ ≠ (v158 : Value).ownBlock) (.slice A0 l0.length c0) l0) := ⟨h4_⟩
    have n5_ : Aside0 (Kd.V k43 43 w48 w.heap.size (fun k_ => ((P0_ k_ ∨ P1_ k_) ∨ w.heap.size ≤ k_) ∧ some k_ ≠ (v155 : Value).ownBlock ∧ some k_ ≠ (v158 : Value).ownBlock) (.slice A1 l1.length c1) l1) := ⟨h5_⟩
    have n6_ : Aside0 (Below w.heap.size w w48) := ⟨h6_⟩
    clear HO_0
    clear HO_1
    clear HB
    clear h0_ h1_ h2_ h3_ h4_ h5_ h6_
    have HO153 := n0_
    have HO156 := n1_
    have HO159 := n2_
    have HO167 := n3_
    have HO_0 := n4_
    have HO_1 := n5_
    have HB := n6_
    clear n0_ n1_ n2_ n3_ n4_ n5_ n6_
    have hHeld := trivial
    obtain ⟨Ao50, co50, eo50⟩ := Kd.N_slice HO159.out
    (first | subst eo50 | (injection eo50 with f1_ f2_ f3_; have f4_ := f1_.symm; have f5_ := f3_.symm; clear f1_ f2_ f3_; subst f4_; subst f5_))
    refine norm_ (a' := ?_) ?_ ?_
    rotate_left
    ·simp only [putAll, Act.put, xA, xB, xC]
     rfl
    refine one_ (i := 7) (N := some 42) zA65 rfl rfl (one_of HT_.out (by kernel_rfl)) (by decide) (fun K hK => ?_)
    refine Kd.N_append_rows_step (Kd.slice 43 k43) (w0 := w) w.heap.size (by rfl) (.tmp 39) (.tmp 41) 28 40 (.slice none 0 0) 24 rfl Try.underlying28 info40 rfl (by decide) (by omega) v155 y154 y157 _ _ _ (fun k_ => ((P0_ k_ ∨ P1_ k_) ∨ w.heap.size ≤ k_)) (fun k_ => ((fun k_ => ((P0_ k_ ∨ P1_ k_) ∨ w.heap.size ≤ k_))) k_ ∧ some k_ ≠ (v155 : Value).ownBlock) rfl rfl ?aO ?aR (fun _ hk => hk) ?aF ?aB ?aS ?aL ?_
    (case aR => exact (by skip; exact Kd.N_F (Kd.N_mono (ok' := (fun k_ => ((fun k_ => ((P0_ k_ ∨ P1_ k_) ∨ w.heap.size ≤ k_))) k_ ∧ some k_ ≠ (v155 : Value).ownBlock)) (HO159.out) (fun k_ hk => ⟨hk.1, hk.2⟩))))
    (case aB => exact zb)
    (case aF => exact (fun k_ hk => (.inr (Nat.le_trans (below_size zb) hk))))
    (case aO => exact (zd8 HO156.out))
    (case aS => exact (below_size zb))
    (case aL => have := LMc36.out; omega)
    intro v161 w49 ho hb hg hat
    rw [← Ny160.out] at ho
    have n0_ := aM (Kd.V_afterv (ok := (fun k_ => ((P0_ k_ ∨ P1_ k_) ∨ w.heap.size ≤ k_) ∧ some k_ ≠ (.slice Ao50 y157.length co50 : Value).ownBlock)) (zd43 HO_0.out) hg hat)
    have n1_ := aM (Kd.V_afterv (ok := (fun k_ => ((P0_ k_ ∨ P1_ k_) ∨ w.heap.size ≤ k_) ∧ some k_ ≠ (.slice Ao50 y157.length co50 : Value).ownBlock)) (zd43 HO_1.out) hg hat)
    have n2_ := aM (Kd.V_afterv (ok := (fun k_ => ((P0_ k_ ∨ P1_ k_) ∨ w.heap.size ≤ k_) ∧ some k_ ≠ (.slice Ao50 y157.length co50 : Value).ownBlock)) (zd43 HO153.out) hg hat)
    have n3_ := aM (Kd.V_afterv (ok := (fun k_ => ((P0_ k_ ∨ P1_ k_) ∨ w.heap.size ≤ k_) ∧ some k_ ≠ (.slice Ao50 y157.length co50 : Value).ownBlock)) (zd43 HO167.out) hg hat)
    have n4_ := aM (Kd.N_afterv (ok := (fun k_ => ((P0_ k_ ∨ P1_ k_) ∨ w.heap.size ≤ k_))) (mN_ HO159.out) hg hat)
    have n5_ := aM (hb)
    have n6_ := aM (ho)
    clear HO_0
    clear HO_1
    clear HO153
    clear HO167
    clear HO159
    clear HB
    clear HO156
    have HO_0 := n0_
    have HO_1 := n1_
    have HO153 := n2_
    have HO167 := n3_
    have HO159 := n4_
    have HB := n5_
    have HO162 := n6_
    clear n0_ n1_ n2_ n3_ n4_ n5_ n6_
    clear ho hb hg hat
    refine hK.out _ _ trivial (fun hHeld => ?_)
    clear hK K
    refine norm_ (a' := ?_) ?_ ?_
    rotate_left
    ·show Act.put _ (some 42) _ = _
     simp only [Act.put, xA, xB, xC, i64_w, i32_w]
     rfl
    refine one_ (i := 11) (N := some 46) zA66 rfl rfl (one_of HT_.out (by kernel_rfl)) (by decide) (fun K hK => ?_)
    refine Kd.N_append_rows_step (Kd.slice 43 k43) (w0 := w) w.heap.size (by rfl) (.tmp 42) (.tmp 45) 28 40 (.slice none 0 0) 24 rfl Try.underlying28 info40 rfl (by decide) (by omega) v161 y160 y163 _ _ _ (fun k_ => ((P0_ k_ ∨ P1_ k_) ∨ w.heap.size ≤ k_)) (fun k_ => ((fun k_ => ((P0_ k_ ∨ P1_ k_) ∨ w.heap.size ≤ k_))) k_ ∧ some k_ ≠ (v161 : Value).ownBlock) rfl rfl ?aO ?aR (fun _ hk => hk) ?aF ?aB ?aS ?aL ?_
    (case aR => exact (by skip; exact Kd.V_F (Kd.V_mono (ok' := (fun k_ => ((fun k_ => ((P0_ k_ ∨ P1_ k_) ∨ w.heap.size ≤ k_))) k_ ∧ some k_ ≠ (v161 : Value).ownBlock)) (HO167.out) (fun k_ hk => ⟨hk.1.1, hk.2⟩))))
    (case aB => exact zb)
    (case aF => exact (fun k_ hk => (.inr (Nat.le_trans (below_size zb) hk))))
    (case aO => exact (mN_ HO162.out))
    (case aS => exact (below_size zb))
    (case aL => have := LMc39.out; omega)
    intro v169 w51 ho hb hg hat
    rw [← Ny168.out] at ho
    have n0_ := aM (Kd.V_afterv (ok := (fun k_ => ((P0_ k_ ∨ P1_ k_) ∨ w.heap.size ≤ k_) ∧ some k_ ≠ (.slice Ao50 y157.length co50 : Value).ownBlock)) (mV_ HO_0.out) hg hat)
    have n1_ := aM (Kd.V_afterv (ok := (fun k_ => ((P0_ k_ ∨ P1_ k_) ∨ w.heap.size ≤ k_) ∧ some k_ ≠ (.slice Ao50 y157.length co50 : Value).ownBlock)) (mV_ HO_1.out) hg hat)
    have n2_ := aM (Kd.V_afterv (ok := (fun k_ => ((P0_ k_ ∨ P1_ k_) ∨ w.heap.size ≤ k_) ∧ some k_ ≠ (.slice Ao50 y157.length co50 : Value).ownBlock)) (mV_ HO153.out) hg hat)
    have n3_ := aM (Kd.V_afterv (ok := (fun k_ => ((P0_ k_ ∨ P1_ k_) ∨ w.heap.size ≤ k_) ∧ some k_ ≠ (.slice Ao50 y157.length co50 : Value).ownBlock)) (mV_ HO167.out) hg hat)
    have n4_ := aM (Kd.N_afterv (ok := (fun k_ => ((P0_ k_ ∨ P1_ k_) ∨ w.heap.size ≤ k_))) (mN_ HO159.out) hg hat)
    have n5_ := aM (hb)
    have n6_ := aM (ho)
    clear HO_0
    clear HO_1
    clear HO153
    clear HO167
    clear HO159
    clear HB
    clear HO162
    have HO_0 := n0_
    have HO_1 := n1_
    have HO153 := n2_
    have HO167 := n3_
    have HO159 := n4_
    have HB := n5_
    have HO170 := n6_
    clear n0_ n1_ n2_ n3_ n4_ n5_ n6_
    clear ho hb hg hat
    refine hK.out _ _ trivial (fun hHeld => ?_)
    clear hK K
    refine norm_ (a' := ?_) ?_ ?_
    rotate_left
    ·show Act.put _ (some 46) _ = _
     simp only [Act.put, xA, xB, xC, i64_w, i32_w]
     rfl
    refine zp 12 (some 4) ?_ zA67 rfl rfl (Or.inl ⟨by rfl, ?_⟩) ?_ ?_ ?_
    rotate_left
    ·intro w'
     go_simp
     with_reducible rfl
    rotate_left
    ·simp only [Act.put, xA, xB, xC, i64_w, i32_w]
     rfl
    refine done_ (done_of HT_.out (by kernel_rfl)) ?_
    try go_wp2
    go_ret
    exact ⟨_, zw, Kd.N_V (mN_ HO170.out), zb⟩
   rw [if_pos c3] at H
   have c3b0 : decide (x5_1 < (l0.length : Int)) = true := decide_eq_true c3
   clear c3
   by_cases c4 : 0 ≤ x5_1
   rotate_left
   ·rw [if_neg c4] at H
    exact absurd H (by simp)
   rw [if_pos c4] at H
   have c4b0 : decide (0 ≤ x5_1) = true := decide_eq_true c4
   clear c4
   replace H := Option.bind_eq_some_iff.mp H
   obtain ⟨t118, A50, H⟩ := H
   replace H : (if t118 < 0 then (spec_l09Insert.l0 k1 l0 l1 (wrap64 (x5_1 + 1))) else ((spec_l09Compare.f k1 (rd_L2 l0 x5_1) l1).bind fun t120 => (if t120 = 0 then (some l0) else ((some (([] : List (List (S43))) : List (List (S43)))).bind fun y121 => (if x5_1 ≤ (l0.length : Int) then ((some (l0.take (x5_1 : Int).toNat : List (List (S43)))).bind fun y124 => (if y121.length + y124.length < 5864062014805 then ((some (y121 ++ y124 : List (List (S43)))).bind fun y129 => ((some (([l1] : List (List (S43))) : List (List (S43)))).bind fun y132 => (if y129.length + y132.length < 5864062014805 then ((some (y129 ++ y132 : List (List (S43)))).bind fun y135 => ((some (l0.drop (x5_1 : Int).toNat : List (List (S43)))).bind fun y138 => (if y135.length + y138.length < 5864062014805 then (some (y135 ++ y138)) else (none)))) else (none)))) else (none))) else (none)))))) = some r := H
   have A5 := aM A50
   clear A50
   by_cases c6 : t118 < 0
   ·rw [if_pos c6] at H
    have c6b0 : decide (t118 < 0) = true := decide_eq_true c6
    clear c6
    have H' := aM H
    clear H
    have p117 : 0 ≤ (x5_1 : Int) := of_decide_eq_true za
    have q117 : x5_1 < (l0.length : Int) := of_decide_eq_true za
    obtain ⟨ad117, A117_0, c117_0, e117, hx117_0, hl117_0, hi117_0⟩ := at_L2 (Kd.V_reads' HO_0.out).2.2 x5_1 p117 q117
    cases e117
    obtain ⟨ce117, hce117, hMe117, hcc117⟩ := Kd.V_get HO_0.out [] x5_1 p117 (by first | exact q117 | exact of_decide_eq_true za | (have e_ := (Kd.V_reads' HO_0.out).1; omega))
    obtain ⟨ua117_0, uc117_0, rfl, ul117_0, ge117_0⟩ := Kd.FK_slice_open hMe117
    have hv117_0 := hcc117 0 _ rfl
    rw [Nat.add_zero, show ((Kd.slice 43 k43)).sz = 1 from rfl, Nat.mul_one] at hv117_0
    replace hv117_0 := Option.some.inj (hv117_0.symm.trans hx117_0)
    injection hv117_0 with hva_ hvn_ hvc_
    rw [hva_] at ge117_0
    rw [hvc_] at ul117_0
    have HL117_0 := aM (show Kd.V k43 43 _ w.heap.size _ _ (rd_L2 l0 x5_1) from Kd.V_mk ul117_0 ge117_0)
    clear hva_ hvn_ hvc_ ge117_0 ul117_0
    clear hcc117 hce117
    have HR117_0 := aM hi117_0
    have HC117_0 := aM hl117_0
    clear hi117_0 hl117_0
    replace p117 := eq_true p117
    replace q117 := eq_true q117
    go_wp2_with (first | (go_at_call 31; (with_reducible refine (spec_l09Compare.calls k1 _ _ (rd_L2 l0 x5_1) _ _ l1 t118 _ ?side1 ?side2 ?side3 ?side4 A5.out).mono ?_); (case side1 => repeat (first | exact (mQ_ HR117_0.out) | (with_reducible refine Kd.C_alloc ?_ _) | (with_reducible refine Kd.C_drewN ?_ _) | (with_reducible refine Kd.C_drew ?_))); (case side2 => exact HC117_0.out); (case side3 => repeat (first | exact (Kd.V_reads' HO_1.out).2.2 | (with_reducible refine Kd.C_alloc ?_ _) | (with_reducible refine Kd.C_drewN ?_ _) | (with_reducible refine Kd.C_drew ?_))); (case side4 => exact (Kd.V_reads' HO_1.out).2.1); rintro e w7 ⟨rfl, hb⟩; have n0_ := aM (Kd.V_below (mV_ HO_0.out) hb); have n1_ := aM (Kd.V_below (mV_ HO_1.out) hb); have n2_ := aM (Kd.V_below (mV_ HL117_0.out) hb); have n3_ := aM (Kd.C_below (mQ_ HR117_0.out) hb); have n4_ := aM (below_step zb hb); clear HO_0 HO_1 HL117_0 HR117_0 HB; have HO_0 := n0_; have HO_1 := n1_; have HL117_0 := n2_; have HR117_0 := n3_; have HB := n4_; clear n0_ n1_ n2_ n3_ n4_; (try clear hb); (try clear hb2); (try clear hk); (try clear hi)))
    go_roundg k1
    case measure => have := HK1.out; omega
    case rel => exact ⟨(wrap64 (x5_1 + 1)), zr, H', ⟨by have := HK1.out; omega⟩, ⟨mV_ HO_0.out⟩, ⟨mV_ HO_1.out⟩, ⟨zb⟩⟩
   rw [if_neg c6] at H
   have c6b0 : decide (t118 < 0) = false := decide_eq_false c6
   clear c6
   replace H := Option.bind_eq_some_iff.mp H
   obtain ⟨t120, A80, H⟩ := H
   replace H : (if t120 = 0 then (some l0) else ((some (([] : List (List (S43))) : List (List (S43)))).bind fun y121 => (if x5_1 ≤ (l0.length : Int) then ((some (l0.take (x5_1 : Int).toNat : List (List (S43)))).bind fun y124 => (if y121.length + y124.length < 5864062014805 then ((some (y121 ++ y124 : List (List (S43)))).bind fun y129 => ((some (([l1] : List (List (S43))) : List (List (S43)))).bind fun y132 => (if y129.length + y132.length < 5864062014805 then ((some (y129 ++ y132 : List (List (S43)))).bind fun y135 => ((some (l0.drop (x5_1 : Int).toNat : List (List (S43)))).bind fun y138 => (if y135.length + y138.length < 5864062014805 then (some (y135 ++ y138)) else (none)))) else (none)))) else (none))) else (none)))) = some r := H
   have A8 := aM A80
   clear A80
   by_cases c9 : t120 = 0
   ·rw [if_pos c9] at H
    have c9b0 : (t120 == 0) = true := beq_iff_eq.mpr c9
    have c9b1 : (t120 != 0) = false := bne_eq_false_iff_eq.mpr c9
    clear c9
    obtain rfl := Option.some.inj H
    have p117 : 0 ≤ (x5_1 : Int) := of_decide_eq_true za
    have q117 : x5_1 < (l0.length : Int) := of_decide_eq_true za
    obtain ⟨ad117, A117_0, c117_0, e117, hx117_0, hl117_0, hi117_0⟩ := at_L2 (Kd.V_reads' HO_0.out).2.2 x5_1 p117 q117
    cases e117
    obtain ⟨ce117, hce117, hMe117, hcc117⟩ := Kd.V_get HO_0.out [] x5_1 p117 (by first | exact q117 | exact of_decide_eq_true za | (have e_ := (Kd.V_reads' HO_0.out).1; omega))
    obtain ⟨ua117_0, uc117_0, rfl, ul117_0, ge117_0⟩ := Kd.FK_slice_open hMe117
    have hv117_0 := hcc117 0 _ rfl
    rw [Nat.add_zero, show ((Kd.slice 43 k43)).sz = 1 from rfl, Nat.mul_one] at hv117_0
    replace hv117_0 := Option.some.inj (hv117_0.symm.trans hx117_0)
    injection hv117_0 with hva_ hvn_ hvc_
    rw [hva_] at ge117_0
    rw [hvc_] at ul117_0
    have HL117_0 := aM (show Kd.V k43 43 _ w.heap.size _ _ (rd_L2 l0 x5_1) from Kd.V_mk ul117_0 ge117_0)
    clear hva_ hvn_ hvc_ ge117_0 ul117_0
    clear hcc117 hce117
    have HR117_0 := aM hi117_0
    have HC117_0 := aM hl117_0
    clear hi117_0 hl117_0
    replace p117 := eq_true p117
    replace q117 := eq_true q117
    go_wp2_with (first | (go_at_call 31; (with_reducible refine (spec_l09Compare.calls k1 _ _ (rd_L2 l0 x5_1) _ _ l1 t118 _ ?side1 ?side2 ?side3 ?side4 A5.out).mono ?_); (case side1 => repeat (first | exact (mQ_ HR117_0.out) | (with_reducible refine Kd.C_alloc ?_ _) | (with_reducible refine Kd.C_drewN ?_ _) | (with_reducible refine Kd.C_drew ?_))); (case side2 => exact HC117_0.out); (case side3 => repeat (first | exact (Kd.V_reads' HO_1.out).2.2 | (with_reducible refine Kd.C_alloc ?_ _) | (with_reducible refine Kd.C_drewN ?_ _) | (with_reducible refine Kd.C_drew ?_))); (case side4 => exact (Kd.V_reads' HO_1.out).2.1); rintro e w10 ⟨rfl, hb⟩; have n0_ := aM (Kd.V_below (mV_ HO_0.out) hb); have n1_ := aM (Kd.V_below (mV_ HO_1.out) hb); have n2_ := aM (Kd.V_below (mV_ HL117_0.out) hb); have n3_ := aM (Kd.C_below (mQ_ HR117_0.out) hb); have n4_ := aM (below_step zb hb); clear HO_0 HO_1 HL117_0 HR117_0 HB; have HO_0 := n0_; have HO_1 := n1_; have HL117_0 := n2_; have HR117_0 := n3_; have HB := n4_; clear n0_ n1_ n2_ n3_ n4_; (try clear hb); (try clear hb2); (try clear hk); (try clear hi); have p119 : 0 ≤ (x5_1 : Int) := of_decide_eq_true za; have q119 : x5_1 < (l0.length : Int) := of_decide_eq_true za; obtain ⟨ad119, A119_0, c119_0, e119, hx119_0, hl119_0, hi119_0⟩ := at_L2 (Kd.V_reads' HO_0.out).2.2 x5_1 p119 q119; obtain rfl : ad117 = ad119 := (by injection e119); obtain ⟨ce119, hce119, hMe119, hcc119⟩ := Kd.V_get HO_0.out [] x5_1 p119 (by first | exact q119 | exact of_decide_eq_true za | (have e_ := (Kd.V_reads' HO_0.out).1; omega)); obtain ⟨ua119_0, uc119_0, rfl, ul119_0, ge119_0⟩ := Kd.FK_slice_open hMe119; have hv119_0 := hcc119 0 _ rfl; rw [Nat.add_zero, show ((Kd.slice 43 k43)).sz = 1 from rfl, Nat.mul_one] at hv119_0; replace hv119_0 := Option.some.inj (hv119_0.symm.trans hx119_0); injection hv119_0 with hva_ hvn_ hvc_; rw [hva_] at ge119_0; rw [hvc_] at ul119_0; have HL119_0 := aM (show Kd.V k43 43 _ w.heap.size _ _ (rd_L2 l0 x5_1) from Kd.V_mk ul119_0 ge119_0); clear hva_ hvn_ hvc_ ge119_0 ul119_0 hcc119 hce119; have HR119_0 := aM hi119_0; have HC119_0 := aM hl119_0; clear hi119_0 hl119_0; replace p119 := eq_true p119; replace q119 := eq_true q119) | (go_at_call 31; (with_reducible refine (spec_l09Compare.calls k1 _ _ (rd_L2 l0 x5_1) _ _ l1 t120 _ ?side1 ?side2 ?side3 ?side4 A8.out).mono ?_); (case side1 => repeat (first | exact (mQ_ HR119_0.out) | (with_reducible refine Kd.C_alloc ?_ _) | (with_reducible refine Kd.C_drewN ?_ _) | (with_reducible refine Kd.C_drew ?_))); (case side2 => exact HC119_0.out); (case side3 => repeat (first | exact (Kd.V_reads' HO_1.out).2.2 | (with_reducible refine Kd.C_alloc ?_ _) | (with_reducible refine Kd.C_drewN ?_ _) | (with_reducible refine Kd.C_drew ?_))); (case side4 => exact (Kd.V_reads' HO_1.out).2.1); rintro e w11 ⟨rfl, hb⟩; have n0_ := aM (Kd.V_below (mV_ HO_0.out) hb); have n1_ := aM (Kd.V_below (mV_ HO_1.out) hb); have n2_ := aM (Kd.V_below (mV_ HL117_0.out) hb); have n3_ := aM (Kd.V_below (mV_ HL119_0.out) hb); have n4_ := aM (Kd.C_below (mQ_ HR117_0.out) hb); have n5_ := aM (Kd.C_below (mQ_ HR119_0.out) hb); have n6_ := aM (below_step zb hb); clear HO_0 HO_1 HL117_0 HL119_0 HR117_0 HR119_0 HB; have HO_0 := n0_; have HO_1 := n1_; have HL117_0 := n2_; have HL119_0 := n3_; have HR117_0 := n4_; have HR119_0 := n5_; have HB := n6_; clear n0_ n1_ n2_ n3_ n4_ n5_ n6_; (try clear hb); (try clear hb2); (try clear hk); (try clear hi)))
    go_ret
    exact ⟨_, zw, mV_ HO_0.out, zb⟩
   rw [if_neg c9] at H
   have c9b0 : (t120 == 0) = false := beq_eq_false_iff_ne.mpr c9
   have c9b1 : (t120 != 0) = true := bne_iff_ne.mpr c9
   obtain ⟨y121, hy121⟩ : ∃ y_ : List (List (S43)), y_ = (([] : List (List (S43)))) := ⟨_, rfl⟩
   replace H : (if x5_1 ≤ (l0.length : Int) then ((some (l0.take (x5_1 : Int).toNat : List (List (S43)))).bind fun y124 => (if y121.length + y124.length < 5864062014805 then ((some (y121 ++ y124 : List (List (S43)))).bind fun y129 => ((some (([l1] : List (List (S43))) : List (List (S43)))).bind fun y132 => (if y129.length + y132.length < 5864062014805 then ((some (y129 ++ y132 : List (List (S43)))).bind fun y135 => ((some (l0.drop (x5_1 : Int).toNat : List (List (S43)))).bind fun y138 => (if y135.length + y138.length < 5864062014805 then (some (y135 ++ y138)) else (none)))) else (none)))) else (none))) else (none)) = some r := zy H hy121
   have Ny121 := aM hy121
   clear hy121
   have c12b0 := eq_true (of_decide_eq_true za : 0 ≤ x5_1)
   by_cases c13 : x5_1 ≤ (l0.length : Int)
   rotate_left
   ·rw [if_neg c13] at H
    exact absurd H (by simp)
   rw [if_pos c13] at H
   have c13b0 := eq_true c13
   have c13b1 : decide (x5_1 ≤ (l0.length : Int)) = true := decide_eq_true c13
   clear c13
   obtain ⟨y124, hy124⟩ : ∃ y_ : List (List (S43)), y_ = (l0.take (x5_1 : Int).toNat) := ⟨_, rfl⟩
   replace H : (if y121.length + y124.length < 5864062014805 then ((some (y121 ++ y124 : List (List (S43)))).bind fun y129 => ((some (([l1] : List (List (S43))) : List (List (S43)))).bind fun y132 => (if y129.length + y132.length < 5864062014805 then ((some (y129 ++ y132 : List (List (S43)))).bind fun y135 => ((some (l0.drop (x5_1 : Int).toNat : List (List (S43)))).bind fun y138 => (if y135.length + y138.length < 5864062014805 then (some (y135 ++ y138)) else (none)))) else (none)))) else (none)) = some r := zy H hy124
   have Ny124 := aM hy124
   clear hy124
   by_cases c14 : y121.length + y124.length < 5864062014805
   rotate_left
   ·rw [if_neg c14] at H
    exact absurd H (by simp)
   rw [if_pos c14] at H
   have LMc14 := aM c14
   clear c14
   obtain ⟨y129, hy129⟩ : ∃ y_ : List (List (S43)), y_ = (y121 ++ y124) := ⟨_, rfl⟩
   replace H : ((some (([l1] : List (List (S43))) : List (List (S43)))).bind fun y132 => (if y129.length + y132.length < 5864062014805 then ((some (y129 ++ y132 : List (List (S43)))).bind fun y135 => ((some (l0.drop (x5_1 : Int).toNat : List (List (S43)))).bind fun y138 => (if y135.length + y138.length < 5864062014805 then (some (y135 ++ y138)) else (none)))) else (none))) = some r := zy H hy129
   have Ny129 := aM hy129
   clear hy129
   obtain ⟨y132, hy132⟩ : ∃ y_ : List (List (S43)), y_ = (([l1] : List (List (S43)))) := ⟨_, rfl⟩
   replace H : (if y129.length + y132.length < 5864062014805 then ((some (y129 ++ y132 : List (List (S43)))).bind fun y135 => ((some (l0.drop (x5_1 : Int).toNat : List (List (S43)))).bind fun y138 => (if y135.length + y138.length < 5864062014805 then (some (y135 ++ y138)) else (none)))) else (none)) = some r := zy H hy132
   have Ny132 := aM hy132
   clear hy132
   by_cases c15 : y129.length + y132.length < 5864062014805
   rotate_left
   ·rw [if_neg c15] at H
    exact absurd H (by simp)
   rw [if_pos c15] at H
   have LMc15 := aM c15
   clear c15
   obtain ⟨y135, hy135⟩ : ∃ y_ : List (List (S43)), y_ = (y129 ++ y132) := ⟨_, rfl⟩
   replace H : ((some (l0.drop (x5_1 : Int).toNat : List (List (S43)))).bind fun y138 => (if y135.length + y138.length < 5864062014805 then (some (y135 ++ y138)) else (none))) = some r := zy H hy135
   have Ny135 := aM hy135
   clear hy135
   have c16b0 := eq_true (of_decide_eq_true za : 0 ≤ x5_1)
   have c17b0 := eq_true (of_decide_eq_true za : x5_1 ≤ (l0.length : Int))
   obtain ⟨y138, hy138⟩ : ∃ y_ : List (List (S43)), y_ = (l0.drop (x5_1 : Int).toNat) := ⟨_, rfl⟩
   replace H : (if y135.length + y138.length < 5864062014805 then (some (y135 ++ y138)) else (none)) = some r := zy H hy138
   have Ny138 := aM hy138
   clear hy138
   by_cases c18 : y135.length + y138.length < 5864062014805
   rotate_left
   ·rw [if_neg c18] at H
    exact absurd H (by simp)
   rw [if_pos c18] at H
   have LMc18 := aM c18
   clear c18
   obtain ⟨y143, hy143⟩ : ∃ y_ : List (List (S43)), y_ = (y135 ++ y138) := ⟨_, rfl⟩
   replace H : (some y143) = some r := zy H hy143
   have Ny143 := aM hy143
   clear hy143
   obtain rfl := Option.some.inj H
   have p117 : 0 ≤ (x5_1 : Int) := of_decide_eq_true za
   have q117 : x5_1 < (l0.length : Int) := of_decide_eq_true za
   obtain ⟨ad117, A117_0, c117_0, e117, hx117_0, hl117_0, hi117_0⟩ := at_L2 (Kd.V_reads' HO_0.out).2.2 x5_1 p117 q117
   cases e117
   obtain ⟨ce117, hce117, hMe117, hcc117⟩ := Kd.V_get HO_0.out [] x5_1 p117 (by first | exact q117 | exact of_decide_eq_true za | (have e_ := (Kd.V_reads' HO_0.out).1; omega))
   obtain ⟨ua117_0, uc117_0, rfl, ul117_0, ge117_0⟩ := Kd.FK_slice_open hMe117
   have hv117_0 := hcc117 0 _ rfl
   rw [Nat.add_zero, show ((Kd.slice 43 k43)).sz = 1 from rfl, Nat.mul_one] at hv117_0
   replace hv117_0 := Option.some.inj (hv117_0.symm.trans hx117_0)
   injection hv117_0 with hva_ hvn_ hvc_
   rw [hva_] at ge117_0
   rw [hvc_] at ul117_0
   have HL117_0 := aM (show Kd.V k43 43 _ w.heap.size _ _ (rd_L2 l0 x5_1) from Kd.V_mk ul117_0 ge117_0)
   clear hva_ hvn_ hvc_ ge117_0 ul117_0
   clear hcc117 hce117
   have HR117_0 := aM hi117_0
   have HC117_0 := aM hl117_0
   clear hi117_0 hl117_0
   replace p117 := eq_true p117
   replace q117 := eq_true q117
   try go_wp2_with (first | (go_at_call 31; (with_reducible refine (spec_l09Compare.calls k1 _ _ (rd_L2 l0 x5_1) _ _ l1 t118 _ ?side1 ?side2 ?side3 ?side4 A5.out).mono ?_); (case side1 => repeat (first | exact (mQ_ HR117_0.out) | (with_reducible refine Kd.C_alloc ?_ _) | (with_reducible refine Kd.C_drewN ?_ _) | (with_reducible refine Kd.C_drew ?_))); (case side2 => exact HC117_0.out); (case side3 => repeat (first | exact (Kd.V_reads' HO_1.out).2.2 | (with_reducible refine Kd.C_alloc ?_ _) | (with_reducible refine Kd.C_drewN ?_ _) | (with_reducible refine Kd.C_drew ?_))); (case side4 => exact (Kd.V_reads' HO_1.out).2.1); rintro e w19 ⟨rfl, hb⟩; have n0_ := aM (Kd.V_below (mV_ HO_0.out) hb); have n1_ := aM (Kd.V_below (mV_ HO_1.out) hb); have n2_ := aM (Kd.V_below (mV_ HL117_0.out) hb); have n3_ := aM (Kd.C_below (mQ_ HR117_0.out) hb); have n4_ := aM (below_step zb hb); clear HO_0 HO_1 HL117_0 HR117_0 HB; have HO_0 := n0_; have HO_1 := n1_; have HL117_0 := n2_; have HR117_0 := n3_; have HB := n4_; clear n0_ n1_ n2_ n3_ n4_; (try clear hb); (try clear hb2); (try clear hk); (try clear hi); have p119 : 0 ≤ (x5_1 : Int) := of_decide_eq_true za; have q119 : x5_1 < (l0.length : Int) := of_decide_eq_true za; obtain ⟨ad119, A119_0, c119_0, e119, hx119_0, hl119_0, hi119_0⟩ := at_L2 (Kd.V_reads' HO_0.out).2.2 x5_1 p119 q119; obtain rfl : ad117 = ad119 := (by injection e119); obtain ⟨ce119, hce119, hMe119, hcc119⟩ := Kd.V_get HO_0.out [] x5_1 p119 (by first | exact q119 | exact of_decide_eq_true za | (have e_ := (Kd.V_reads' HO_0.out).1; omega)); obtain ⟨ua119_0, uc119_0, rfl, ul119_0, ge119_0⟩ := Kd.FK_slice_open hMe119; have hv119_0 := hcc119 0 _ rfl; rw [Nat.add_zero, show ((Kd.slice 43 k43)).sz = 1 from rfl, Nat.mul_one] at hv119_0; replace hv119_0 := Option.some.inj (hv119_0.symm.trans hx119_0); injection hv119_0 with hva_ hvn_ hvc_; rw [hva_] at ge119_0; rw [hvc_] at ul119_0; have HL119_0 := aM (show Kd.V k43 43 _ w.heap.size _ _ (rd_L2 l0 x5_1) from Kd.V_mk ul119_0 ge119_0); clear hva_ hvn_ hvc_ ge119_0 ul119_0 hcc119 hce119; have HR119_0 := aM hi119_0; have HC119_0 := aM hl119_0; clear hi119_0 hl119_0; replace p119 := eq_true p119; replace q119 := eq_true q119) | (go_at_call 31; (with_reducible refine (spec_l09Compare.calls k1 _ _ (rd_L2 l0 x5_1) _ _ l1 t120 _ ?side1 ?side2 ?side3 ?side4 A8.out).mono ?_); (case side1 => repeat (first | exact (mQ_ HR119_0.out) | (with_reducible refine Kd.C_alloc ?_ _) | (with_reducible refine Kd.C_drewN ?_ _) | (with_reducible refine Kd.C_drew ?_))); (case side2 => exact HC119_0.out); (case side3 => repeat (first | exact (Kd.V_reads' HO_1.out).2.2 | (with_reducible refine Kd.C_alloc ?_ _) | (with_reducible refine Kd.C_drewN ?_ _) | (with_reducible refine Kd.C_drew ?_))); (case side4 => exact (Kd.V_reads' HO_1.out).2.1); rintro e w20 ⟨rfl, hb⟩; have n0_ := aM (Kd.V_below (mV_ HO_0.out) hb); have n1_ := aM (Kd.V_below (mV_ HO_1.out) hb); have n2_ := aM (Kd.V_below (mV_ HL117_0.out) hb); have n3_ := aM (Kd.V_below (mV_ HL119_0.out) hb); have n4_ := aM (Kd.C_below (mQ_ HR117_0.out) hb); have n5_ := aM (Kd.C_below (mQ_ HR119_0.out) hb); have n6_ := aM (below_step zb hb); clear HO_0 HO_1 HL117_0 HL119_0 HR117_0 HR119_0 HB; have HO_0 := n0_; have HO_1 := n1_; have HL117_0 := n2_; have HL119_0 := n3_; have HR117_0 := n4_; have HR119_0 := n5_; have HB := n6_; clear n0_ n1_ n2_ n3_ n4_ n5_ n6_; (try clear hb); (try clear hb2); (try clear hk); (try clear hi)))
   have n0_ := aM (Kd.V_drew HO_0.out)
   have n1_ := aM (Kd.V_drew HO_1.out)
   have n2_ := aM (Kd.V_drew HL117_0.out)
   have n3_ := aM (Kd.V_drew HL119_0.out)
   have n4_ := aM (Kd.C_drew HR117_0.out)
   have n5_ := aM (Kd.C_drew HR119_0.out)
   have n6_ := aM (below_drew1 HB.out)
   clear HO_0
   clear HO_1
   clear HL117_0
   clear HL119_0
   clear HR117_0
   clear HR119_0
   clear HB
   have HO_0 := n0_
   have HO_1 := n1_
   have HL117_0 := n2_
   have HL119_0 := n3_
   have HR117_0 := n4_
   have HR119_0 := n5_
   have HB := n6_
   clear n0_ n1_ n2_ n3_ n4_ n5_ n6_
   have q22 : (x5_1 : Int) ≤ ((l0.length : Int) : Int) := of_decide_eq_true za
   obtain ⟨i022, hi022, _, hsz22, _⟩ := info_parts info40
   have hroom22 : l0.length ≤ c0 := (Kd.V_reads' HO_0.out).2.1
   have hC22 : Kd.F (Kd.slice 43 k43) _ _ (some ad117) l0.length l0 := (Kd.V_at (base := w.heap.size) HO_0.out).2.2
   have hcut22 := cut_to (P := Try.prog) 28 40 .i64 Try.underlying28 hi022 (some ad117) l0.length c0 x5_1 (of_decide_eq_true za) q22 hroom22
   have hr22 := Kd.F_take (m := (x5_1 : Int).toNat) hC22 (by omega)
   have hy22 : y124.length = (x5_1 : Int).toNat := (by rw [Ny124.out, List.length_take]; omega)
   rw [← Ny124.out] at hr22
   rw [← hy22] at hcut22
   have HO128 := aM (show Kd.V (Kd.slice 43 k43) 40 _ w.heap.size _ (.slice (some ad117) y124.length c0) y124 from Kd.V_mk (by omega) hr22)
   have HC128 := aM (show y124.length ≤ c0 from by omega)
   clear hr22 hC22 hroom22 hi022 hsz22
   have KY22 := aM hy22
   clear hy22
   replace q22 := eq_true q22
   have q23 : (x5_1 : Int) ≤ ((l0.length : Int) : Int) := of_decide_eq_true za
   obtain ⟨i023, hi023, _, hsz23, _⟩ := info_parts info40
   have hroom23 : l0.length ≤ c0 := (Kd.V_reads' HO_0.out).2.1
   have hC23 : Kd.F (Kd.slice 43 k43) _ _ (some ad117) l0.length l0 := (Kd.V_at (base := w.heap.size) HO_0.out).2.2
   have q023 : (0 : Int) ≤ (x5_1 : Int) := of_decide_eq_true za
   have hcut23 := cut_from (P := Try.prog) 28 40 .i64 Try.underlying28 hi023 1 hsz23 (some ad117) l0.length c0 x5_1 q023 q23
   have hr23 := Kd.F_cut (m := (x5_1 : Int).toNat) (c := c0) hC23 (by omega) hroom23
   obtain ⟨A23, hA23⟩ : ∃ A1, A1 = (if c0 = (x5_1 : Int).toNat then (some ad117) else ((some ad117) : Option Addr).map (·.add ((x5_1 : Int).toNat * 1))) := ⟨_, rfl⟩
   obtain ⟨c23, hc23⟩ : ∃ c1, c1 = c0 - (x5_1 : Int).toNat := ⟨_, rfl⟩
   have hy23 : y138.length = l0.length - (x5_1 : Int).toNat := (by rw [Ny138.out, List.length_drop] <;> omega)
   rw [show (l0).drop (x5_1 : Int).toNat = y138 from Ny138.out.symm] at hr23
   replace hr23 : Kd.F (Kd.slice 43 k43) _ _ A23 y138.length y138 := (by rw [hA23]; exact hr23)
   rw [← hy23, ← hA23, ← hc23] at hcut23
   have HO142 := aM (show Kd.V (Kd.slice 43 k43) 40 _ w.heap.size _ (.slice A23 y138.length c23) y138 from Kd.V_mk (by rw [hy23, hc23]; exact Nat.sub_le_sub_right hroom23 _) hr23)
   have HC142 := aM (show y138.length ≤ c23 from by rw [hy23, hc23]; exact Nat.sub_le_sub_right hroom23 _)
   clear hr23 hC23 hroom23 hi023 hsz23 hc23
   have KY23 := aM hy23
   have KA23 := aM hA23
   clear hy23 hA23
   replace q23 := eq_true q23
   refine start_ (n := 13) (S := fun w' => True) (ds := []) zA54 (by kernel_rfl) rfl rfl trivial (fun hHeld => ?_); refine with_tabW spec_l09Insert.tab6 spec_l09Insert.bits6 (fun HT_ HW_ => ?_)
   generalize w20.drew = w21 at HO_0 HO_1 HL117_0 HL119_0 HR117_0 HR119_0 HB HO128 HO142 hHeld ⊢
   refine zp 1 (some 36) ?_ zA68 rfl rfl (Or.inl ⟨by rfl, ?_⟩) ?_ ?_ ?_
   rotate_left
   ·intro w'
    go_simp
    with_reducible rfl
   rotate_left
   ·simp only [Act.put, xA, xB, xC, i64_w, i32_w]
    rfl
   refine zp 2 (some 37) ?_ zA69 rfl rfl (Or.inl ⟨by rfl, ?_⟩) ?_ ?_ ?_
   rotate_left
   ·intro w'
    go_simp
    with_reducible rfl
   rotate_left
   ·simp only [Act.put, xA, xB, xC, i64_w, i32_w]
    rfl
   refine zp 3 (some 38) ?_ zA70 rfl rfl (Or.inl ⟨by rfl, ?_⟩) ?_ ?_ ?_
   rotate_left
   ·intro w'
    go_simp
    with_reducible rfl
   rotate_left
   ·simp only [Act.put, xA, xB, xC, i64_w, i32_w]
    rfl
   refine zp 5 (some 40) ?_ zA71 rfl rfl (Or.inl ⟨by rfl, ?_⟩) ?_ ?_ ?_
   rotate_left
   ·intro w'
    go_simp
    with_reducible rfl
   rotate_left
   ·simp only [Act.put, xA, xB, xC, i64_w, i32_w]
    rfl
   refine zp 8 (some 43) ?_ zA72 rfl rfl (Or.inl ⟨by rfl, ?_⟩) ?_ ?_ ?_
   rotate_left
   ·intro w'
    go_simp
    with_reducible rfl
   rotate_left
   ·simp only [Act.put, xA, xB, xC, i64_w, i32_w]
    rfl
   refine zp 9 (some 44) ?_ zA73 rfl rfl (Or.inl ⟨by rfl, ?_⟩) ?_ ?_ ?_
   rotate_left
   ·intro w'
    go_simp
    with_reducible rfl
   rotate_left
   ·simp only [Act.put, xA, xB, xC, i64_w, i32_w]
    rfl
   refine zp 10 (some 45) ?_ zA74 rfl rfl (Or.inl ⟨by rfl, ?_⟩) ?_ ?_ ?_
   rotate_left
   ·intro w'
    go_simp
    with_reducible rfl
   rotate_left
   ·simp only [Act.put, xA, xB, xC, i64_w, i32_w]
    rfl
   refine join_ (σ := Value × Value × Value) 3 zA75 (fun s_ => [(35, s_.1), (39, s_.2.1), (41, s_.2.2)]) (fun s_ w' => (Kd.V k43 43 w' w.heap.size (fun k_ => ((P0_ k_ ∨ P1_ k_) ∨ w.heap.size ≤ k_) ∧ some k_ ≠ (s_.2.1 : Value).ownBlock ∧ some k_ ≠ (s_.2.2 : Value).ownBlock) (.slice A117_0 (rd_L2 l0 x5_1).length c117_0) (rd_L2 l0 x5_1)) ∧ (Kd.V k43 43 w' w.heap.size (fun k_ => ((P0_ k_ ∨ P1_ k_) ∨ w.heap.size ≤ k_) ∧ some k_ ≠ (s_.2.1 : Value).ownBlock ∧ some k_ ≠ (s_.2.2 : Value).ownBlock) (.slice A119_0 (rd_L2 l0 x5_1).length c119_0) (rd_L2 l0 x5_1)) ∧ (Kd.V (Kd.slice 43 k43) 40 w' w.heap.size (fun k_ => ((P0_ k_ ∨ P1_ k_) ∨ w.heap.size ≤ k_) ∧ some k_ ≠ (s_.2.1 : Value).ownBlock ∧ some k_ ≠ (s_.2.2 : Value).ownBlock) (.slice (some ad117) y124.length c0) y124) ∧ (Kd.N (Kd.slice 43 k43) 40 w' w.heap.size (fun k_ => ((P0_ k_ ∨ P1_ k_) ∨ w.heap.size ≤ k_) ∧ some k_ ≠ (s_.2.2 : Value).ownBlock) s_.2.1 y129) ∧ (Kd.N (Kd.slice 43 k43) 40 w' w.heap.size (fun k_ => ((P0_ k_ ∨ P1_ k_) ∨ w.heap.size ≤ k_) ∧ some k_ ≠ (s_.2.1 : Value).ownBlock) s_.2.2 y132) ∧ (Kd.V (Kd.slice 43 k43) 40 w' w.heap.size (fun k_ => ((P0_ k_ ∨ P1_ k_) ∨ w.heap.size ≤ k_) ∧ some k_ ≠ (s_.2.1 : Value).ownBlock ∧ some k_ ≠ (s_.2.2 : Value).ownBlock) (.slice A23 y138.length c23) y138) ∧ (Kd.V (Kd.slice 43 k43) 40 w' w.heap.size (fun k_ => ((P0_ k_ ∨ P1_ k_) ∨ w.heap.size ≤ k_) ∧ some k_ ≠ (s_.2.1 : Value).ownBlock ∧ some k_ ≠ (s_.2.2 : Value).ownBlock) (.slice (some ad117) l0.length c0) l0) ∧ (Kd.V k43 43 w' w.heap.size (fun k_ => ((P0_ k_ ∨ P1_ k_) ∨ w.heap.size ≤ k_) ∧ some k_ ≠ (s_.2.1 : Value).ownBlock ∧ some k_ ≠ (s_.2.2 : Value).ownBlock) (.slice A1 l1.length c1) l1) ∧ (Below w.heap.size w w')) ?_ ?_
   rotate_left
   ·intro hCont
    refine two_ (i := 0) (j := 6) (Ni := some 35) (Nj := some 41) zA76 zA77 rfl rfl rfl rfl (two_of HT_.out (by kernel_rfl)) (by decide) (by decide) (fun K hK => ?_) (fun K hK => ?_)
    ·skip
     refine Kd.N_lit_step (Kd.slice 43 k43) _ 40 ?hg (N' := 35) ?hd (xs := ([] : List (List (S43)))) (inner := []) (ok := (fun k_ => ((P0_ k_ ∨ P1_ k_) ∨ w.heap.size ≤ k_))) (okp := (fun k_ => ((P0_ k_ ∨ P1_ k_) ∨ w.heap.size ≤ k_))) ?hr ?hp (fun _ hk => hk) ((show ∀ k_, w21.heap.size ≤ k_ → (fun k_ => ((P0_ k_ ∨ P1_ k_) ∨ w.heap.size ≤ k_)) k_ from fun k_ hk => (.inr (Nat.le_trans (below_size zb) hk))) _ (Nat.le_refl _)) (Below.refl _ _) (Nat.le_refl _) (by simp) ?_; (case hd => rfl); (case hg => rfl); (case hr => first | (go_simp; done) | (go_simp; rfl)); (case hp => exact (Reps.none _ _))
     intro v122 w24 ho25 hb hg_ hnew_
     clear hg_ hnew_
     (first | rw [← Ny121.out] at ho25 | (simp only [Int.reduceToNat] at ho25; rw [← Ny121.out] at ho25))
     have n0_ := aM (Kd.V_elder' (mV_ HO_0.out) (by first | exact Kd.N_base ho25 | exact Kd.S_base ho25 | exact Kd.R_base ho25) hb)
     have n1_ := aM (Kd.V_elder' (mV_ HO_1.out) (by first | exact Kd.N_base ho25 | exact Kd.S_base ho25 | exact Kd.R_base ho25) hb)
     have n2_ := aM (Kd.V_elder' (mV_ HL117_0.out) (by first | exact Kd.N_base ho25 | exact Kd.S_base ho25 | exact Kd.R_base ho25) hb)
     have n3_ := aM (Kd.V_elder' (mV_ HL119_0.out) (by first | exact Kd.N_base ho25 | exact Kd.S_base ho25 | exact Kd.R_base ho25) hb)
     have n4_ := aM (Kd.V_elder' (mV_ HO128.out) (by first | exact Kd.N_base ho25 | exact Kd.S_base ho25 | exact Kd.R_base ho25) hb)
     have n5_ := aM (Kd.V_elder' (mV_ HO142.out) (by first | exact Kd.N_base ho25 | exact Kd.S_base ho25 | exact Kd.R_base ho25) hb)
     have n6_ := aM (Kd.N_lower ho25 (below_size zb))
     have n7_ := aM (Kd.C_below (mQ_ HR117_0.out) hb)
     have n8_ := aM (Kd.C_below (mQ_ HR119_0.out) hb)
     have n9_ := aM (below_step zb hb)
     clear HO_0
     clear HO_1
     clear HL117_0
     clear HL119_0
     clear HO128
     clear HO142
     clear HR117_0
     clear HR119_0
     clear HB
     have HO_0 := n0_
     have HO_1 := n1_
     have HL117_0 := n2_
     have HL119_0 := n3_
     have HO128 := n4_
     have HO142 := n5_
     have HO123 := n6_
     have HR117_0 := n7_
     have HR119_0 := n8_
     have HB := n9_
     clear n0_ n1_ n2_ n3_ n4_ n5_ n6_ n7_ n8_ n9_
     clear hb ho25
     refine hK.out _ _ trivial (fun hHeld => ?_)
     clear hK K
     refine norm_ (a' := ?_) ?_ ?_
     rotate_left
     ·show Act.put _ (some 35) _ = _
      simp only [Act.put, xA, xB, xC, i64_w, i32_w]
      rfl
     refine two_ (i := 4) (j := 6) (Ni := some 39) (Nj := some 41) zA78 zA79 rfl rfl rfl rfl (two_of HT_.out (by kernel_rfl)) (by decide) (by decide) (fun K hK => ?_) (fun K hK => ?_)
     ·skip
      refine Kd.N_append_rows_step (Kd.slice 43 k43) (w0 := w) w.heap.size (by rfl) (.tmp 35) (.tmp 38) 28 40 (.slice none 0 0) 24 rfl Try.underlying28 info40 rfl (by decide) (by omega) v122 y121 y124 _ _ _ (fun k_ => ((P0_ k_ ∨ P1_ k_) ∨ w.heap.size ≤ k_)) (fun k_ => ((fun k_ => ((P0_ k_ ∨ P1_ k_) ∨ w.heap.size ≤ k_))) k_ ∧ some k_ ≠ (v122 : Value).ownBlock) rfl rfl ?aO ?aR (fun _ hk => hk) ?aF ?aB ?aS ?aL ?_
      (case aR => exact (by skip; exact Kd.V_F (Kd.V_mono (ok' := (fun k_ => ((fun k_ => ((P0_ k_ ∨ P1_ k_) ∨ w.heap.size ≤ k_))) k_ ∧ some k_ ≠ (v122 : Value).ownBlock)) (HO128.out) (fun k_ hk => ⟨hk.1, hk.2⟩))))
      (case aB => exact zb)
      (case aF => exact (fun k_ hk => (.inr (Nat.le_trans (below_size zb) hk))))
      (case aO => exact (mN_ HO123.out))
      (case aS => exact (below_size zb))
      (case aL => have := LMc14.out; omega)
      intro v130 w26 ho hb hg hat
      rw [← Ny129.out] at ho
      have n0_ := aM (Kd.V_afterv (ok := (fun k_ => ((P0_ k_ ∨ P1_ k_) ∨ w.heap.size ≤ k_))) (mV_ HO_0.out) hg hat)
      have n1_ := aM (Kd.V_afterv (ok := (fun k_ => ((P0_ k_ ∨ P1_ k_) ∨ w.heap.size ≤ k_))) (mV_ HO_1.out) hg hat)
      have n2_ := aM (Kd.V_afterv (ok := (fun k_ => ((P0_ k_ ∨ P1_ k_) ∨ w.heap.size ≤ k_))) (mV_ HL117_0.out) hg hat)
      have n3_ := aM (Kd.V_afterv (ok := (fun k_ => ((P0_ k_ ∨ P1_ k_) ∨ w.heap.size ≤ k_))) (mV_ HL119_0.out) hg hat)
      have n4_ := aM (Kd.V_afterv (ok := (fun k_ => ((P0_ k_ ∨ P1_ k_) ∨ w.heap.size ≤ k_))) (mV_ HO128.out) hg hat)
      have n5_ := aM (Kd.V_afterv (ok := (fun k_ => ((P0_ k_ ∨ P1_ k_) ∨ w.heap.size ≤ k_))) (mV_ HO142.out) hg hat)
      have n6_ := aM (hb)
      have n7_ := aM (ho)
      clear HO_0
      clear HO_1
      clear HL117_0
      clear HL119_0
      clear HO128
      clear HO142
      clear HB
      clear HO123
      have HO_0 := n0_
      have HO_1 := n1_
      have HL117_0 := n2_
      have HL119_0 := n3_
      have HO128 := n4_
      have HO142 := n5_
      have HB := n6_
      have HO131 := n7_
      clear n0_ n1_ n2_ n3_ n4_ n5_ n6_ n7_
      clear ho hb hg hat
      refine hK.out _ _ trivial (fun hHeld => ?_)
      clear hK K
      refine norm_ (a' := ?_) ?_ ?_
      rotate_left
      ·show Act.put _ (some 39) _ = _
       simp only [Act.put, xA, xB, xC, i64_w, i32_w]
       rfl
      refine one_ (i := 6) (N := some 41) zA75 rfl rfl (one_of HT_.out (by kernel_rfl)) (by decide) (fun K hK => ?_)
      refine Kd.N_lit_step (Kd.slice 43 k43) _ 40 ?hg (N' := 41) ?hd (xs := ([l1] : List (List (S43)))) (inner := [.slice A1 l1.length c1]) (ok := (fun k_ => ((P0_ k_ ∨ P1_ k_) ∨ w.heap.size ≤ k_) ∧ some k_ ≠ (v130 : Value).ownBlock)) (okp := (fun k_ => ((P0_ k_ ∨ P1_ k_) ∨ w.heap.size ≤ k_) ∧ some k_ ≠ (v130 : Value).ownBlock)) ?hr ?hp (fun _ hk => hk) ((show ∀ k_, w26.heap.size ≤ k_ → (fun k_ => ((P0_ k_ ∨ P1_ k_) ∨ w.heap.size ≤ k_) ∧ some k_ ≠ (v130 : Value).ownBlock) k_ from fun k_ hk => ⟨(.inr (Nat.le_trans (below_size zb) hk)), Kd.fresh' (Kd.N_lt (mN_ HO131.out)) k_ hk⟩) _ (Nat.le_refl _)) (Below.refl _ _) (Nat.le_refl _) (by simp) ?_; (case hd => rfl); (case hg => rfl); (case hr => first | (go_simp; done) | (go_simp; rfl)); (case hp => exact (Reps.one (show Kd.FK (Kd.slice 43 k43) _ _ l1 [.slice A1 l1.length c1] from (Kd.FK_slice_mk (Kd.V_reads' (Kd.V_mono (ok' := (fun k_ => ((P0_ k_ ∨ P1_ k_) ∨ w.heap.size ≤ k_) ∧ some k_ ≠ (v130 : Value).ownBlock)) (HO_1.out) (fun k_ hk => ⟨hk.1, hk.2⟩))).2.1 (Kd.V_F (Kd.V_mono (ok' := (fun k_ => ((P0_ k_ ∨ P1_ k_) ∨ w.heap.size ≤ k_) ∧ some k_ ≠ (v130 : Value).ownBlock)) (HO_1.out) (fun k_ hk => ⟨hk.1, hk.2⟩))))) (Reps.none _ _)))
      intro v133 w27 ho28 hb hg_ hnew_
      clear hg_ hnew_
      (first | rw [← Ny132.out] at ho28 | (simp only [Int.reduceToNat] at ho28; rw [← Ny132.out] at ho28))
      have n0_ := aM (Kd.V_elder' (mV_ HO_0.out) (by first | exact Kd.N_base ho28 | exact Kd.S_base ho28 | exact Kd.R_base ho28) hb)
      have n1_ := aM (Kd.V_elder' (mV_ HO_1.out) (by first | exact Kd.N_base ho28 | exact Kd.S_base ho28 | exact Kd.R_base ho28) hb)
      have n2_ := aM (Kd.V_elder' (mV_ HL117_0.out) (by first | exact Kd.N_base ho28 | exact Kd.S_base ho28 | exact Kd.R_base ho28) hb)
      have n3_ := aM (Kd.V_elder' (mV_ HL119_0.out) (by first | exact Kd.N_base ho28 | exact Kd.S_base ho28 | exact Kd.R_base ho28) hb)
      have n4_ := aM (Kd.V_elder' (mV_ HO128.out) (by first | exact Kd.N_base ho28 | exact Kd.S_base ho28 | exact Kd.R_base ho28) hb)
      have n5_ := aM (Kd.V_elder' (mV_ HO142.out) (by first | exact Kd.N_base ho28 | exact Kd.S_base ho28 | exact Kd.R_base ho28) hb)
      have n6_ := aM (Kd.N_elder' (mN_ HO131.out) (by first | exact Kd.N_base ho28 | exact Kd.S_base ho28 | exact Kd.R_base ho28) hb)
      have n7_ := aM (Kd.N_lower ho28 (below_size zb))
      have n8_ := aM (below_step zb hb)
      clear HO_0
      clear HO_1
      clear HL117_0
      clear HL119_0
      clear HO128
      clear HO142
      clear HO131
      clear HB
      have HO_0 := n0_
      have HO_1 := n1_
      have HL117_0 := n2_
      have HL119_0 := n3_
      have HO128 := n4_
      have HO142 := n5_
      have HO131 := n6_
      have HO134 := n7_
      have HB := n8_
      clear n0_ n1_ n2_ n3_ n4_ n5_ n6_ n7_ n8_
      clear hb ho28
      refine hK.out _ _ trivial (fun hHeld => ?_)
      clear hK K
      refine norm_ (a' := ?_) ?_ ?_
      rotate_left
      ·show Act.put _ (some 41) _ = _
       simp only [Act.put, xA, xB, xC, i64_w, i32_w]
       rfl
      exact norm_ (by simp only [putAll, Act.put, xA, xB, xC]) (hCont (v122, v130, v133) _ ⟨(zd19 HL117_0.out), (zd19 HL119_0.out), (zd19 HO128.out), (mN_ HO131.out), (mN_ HO134.out), (zd19 HO142.out), (zd19 HO_0.out), (zd19 HO_1.out), zb⟩)
     ·skip
      refine Kd.N_lit_step (Kd.slice 43 k43) _ 40 ?hg (N' := 41) ?hd (xs := ([l1] : List (List (S43)))) (inner := [.slice A1 l1.length c1]) (ok := (fun k_ => ((P0_ k_ ∨ P1_ k_) ∨ w.heap.size ≤ k_) ∧ some k_ ≠ (v122 : Value).ownBlock)) (okp := (fun k_ => ((P0_ k_ ∨ P1_ k_) ∨ w.heap.size ≤ k_) ∧ some k_ ≠ (v122 : Value).ownBlock)) ?hr ?hp (fun _ hk => hk) ((show ∀ k_, w24.heap.size ≤ k_ → (fun k_ => ((P0_ k_ ∨ P1_ k_) ∨ w.heap.size ≤ k_) ∧ some k_ ≠ (v122 : Value).ownBlock) k_ from fun k_ hk => ⟨(.inr (Nat.le_trans (below_size zb) hk)), Kd.fresh' (Kd.N_lt (mN_ HO123.out)) k_ hk⟩) _ (Nat.le_refl _)) (Below.refl _ _) (Nat.le_refl _) (by simp) ?_; (case hd => rfl); (case hg => rfl); (case hr => first | (go_simp; done) | (go_simp; rfl)); (case hp => exact (Reps.one (show Kd.FK (Kd.slice 43 k43) _ _ l1 [.slice A1 l1.length c1] from (Kd.FK_slice_mk (Kd.V_reads' (Kd.V_mono (ok' := (fun k_ => ((P0_ k_ ∨ P1_ k_) ∨ w.heap.size ≤ k_) ∧ some k_ ≠ (v122 : Value).ownBlock)) (HO_1.out) (fun k_ hk => ⟨hk.1, hk.2⟩))).2.1 (Kd.V_F (Kd.V_mono (ok' := (fun k_ => ((P0_ k_ ∨ P1_ k_) ∨ w.heap.size ≤ k_) ∧ some k_ ≠ (v122 : Value).ownBlock)) (HO_1.out) (fun k_ hk => ⟨hk.1, hk.2⟩))))) (Reps.none _ _)))
      intro v133 w26 ho27 hb hg_ hnew_
      clear hg_ hnew_
      (first | rw [← Ny132.out] at ho27 | (simp only [Int.reduceToNat] at ho27; rw [← Ny132.out] at ho27))
      have n0_ := aM (Kd.V_elder' (mV_ HO_0.out) (by first | exact Kd.N_base ho27 | exact Kd.S_base ho27 | exact Kd.R_base ho27) hb)
      have n1_ := aM (Kd.V_elder' (mV_ HO_1.out) (by first | exact Kd.N_base ho27 | exact Kd.S_base ho27 | exact Kd.R_base ho27) hb)
      have n2_ := aM (Kd.V_elder' (mV_ HL117_0.out) (by first | exact Kd.N_base ho27 | exact Kd.S_base ho27 | exact Kd.R_base ho27) hb)
      have n3_ := aM (Kd.V_elder' (mV_ HL119_0.out) (by first | exact Kd.N_base ho27 | exact Kd.S_base ho27 | exact Kd.R_base ho27) hb)
      have n4_ := aM (Kd.V_elder' (mV_ HO128.out) (by first | exact Kd.N_base ho27 | exact Kd.S_base ho27 | exact Kd.R_base ho27) hb)
      have n5_ := aM (Kd.V_elder' (mV_ HO142.out) (by first | exact Kd.N_base ho27 | exact Kd.S_base ho27 | exact Kd.R_base ho27) hb)
      have n6_ := aM (Kd.N_elder' (mN_ HO123.out) (by first | exact Kd.N_base ho27 | exact Kd.S_base ho27 | exact Kd.R_base ho27) hb)
      have n7_ := aM (Kd.N_lower ho27 (below_size zb))
      have n8_ := aM (Kd.C_below (mQ_ HR117_0.out) hb)
      have n9_ := aM (Kd.C_below (mQ_ HR119_0.out) hb)
      have n10_ := aM (below_step zb hb)
      clear HO_0
      clear HO_1
      clear HL117_0
      clear HL119_0
      clear HO128
      clear HO142
      clear HO123
      clear HR117_0
      clear HR119_0
      clear HB
      have HO_0 := n0_
      have HO_1 := n1_
      have HL117_0 := n2_
      have HL119_0 := n3_
      have HO128 := n4_
      have HO142 := n5_
      have HO123 := n6_
      have HO134 := n7_
      have HR117_0 := n8_
      have HR119_0 := n9_
      have HB := n10_
      clear n0_ n1_ n2_ n3_ n4_ n5_ n6_ n7_ n8_ n9_ n10_
      clear hb ho27
      refine hK.out _ _ trivial (fun hHeld => ?_)
      clear hK K
      refine norm_ (a' := ?_) ?_ ?_
      rotate_left
      ·show Act.put _ (some 41) _ = _
       simp only [Act.put, xA, xB, xC, i64_w, i32_w]
       rfl
      refine one_ (i := 4) (N := some 39) zA75 rfl rfl (one_of HT_.out (by kernel_rfl)) (by decide) (fun K hK => ?_)
      refine Kd.N_append_rows_step (Kd.slice 43 k43) (w0 := w) w.heap.size (by rfl) (.tmp 35) (.tmp 38) 28 40 (.slice none 0 0) 24 rfl Try.underlying28 info40 rfl (by decide) (by omega) v122 y121 y124 _ _ _ (fun k_ => ((P0_ k_ ∨ P1_ k_) ∨ w.heap.size ≤ k_) ∧ some k_ ≠ (v133 : Value).ownBlock) (fun k_ => ((fun k_ => ((P0_ k_ ∨ P1_ k_) ∨ w.heap.size ≤ k_) ∧ some k_ ≠ (v133 : Value).ownBlock)) k_ ∧ some k_ ≠ (v122 : Value).ownBlock) rfl rfl ?aO ?aR (fun _ hk => hk) ?aF ?aB ?aS ?aL ?_
      (case aR => exact (by skip; exact Kd.V_F (Kd.V_mono (ok' := (fun k_ => ((fun k_ => ((P0_ k_ ∨ P1_ k_) ∨ w.heap.size ≤ k_) ∧ some k_ ≠ (v133 : Value).ownBlock)) k_ ∧ some k_ ≠ (v122 : Value).ownBlock)) (HO128.out) (fun k_ hk => ⟨⟨hk.1.1, hk.2⟩, hk.1.2⟩))))
      (case aB => exact zb)
      (case aF => exact (fun k_ hk => ⟨(.inr (Nat.le_trans (below_size zb) hk)), Kd.fresh' (Kd.N_lt (mN_ HO134.out)) k_ hk⟩))
      (case aO => exact (mN_ HO123.out))
      (case aS => exact (below_size zb))
      (case aL => have := LMc14.out; omega)
      intro v130 w28 ho hb hg hat
      rw [← Ny129.out] at ho
      have n0_ := aM (Kd.V_afterv (ok := (fun k_ => ((P0_ k_ ∨ P1_ k_) ∨ w.heap.size ≤ k_) ∧ some k_ ≠ (v133 : Value).ownBlock)) (zd6 HO_0.out) hg hat)
      have n1_ := aM (Kd.V_afterv (ok := (fun k_ => ((P0_ k_ ∨ P1_ k_) ∨ w.heap.size ≤ k_) ∧ some k_ ≠ (v133 : Value).ownBlock)) (zd6 HO_1.out) hg hat)
      have n2_ := aM (Kd.V_afterv (ok := (fun k_ => ((P0_ k_ ∨ P1_ k_) ∨ w.heap.size ≤ k_) ∧ some k_ ≠ (v133 : Value).ownBlock)) (zd6 HL117_0.out) hg hat)
      have n3_ := aM (Kd.V_afterv (ok := (fun k_ => ((P0_ k_ ∨ P1_ k_) ∨ w.heap.size ≤ k_) ∧ some k_ ≠ (v133 : Value).ownBlock)) (zd6 HL119_0.out) hg hat)
      have n4_ := aM (Kd.V_afterv (ok := (fun k_ => ((P0_ k_ ∨ P1_ k_) ∨ w.heap.size ≤ k_) ∧ some k_ ≠ (v133 : Value).ownBlock)) (zd6 HO128.out) hg hat)
      have n5_ := aM (Kd.V_afterv (ok := (fun k_ => ((P0_ k_ ∨ P1_ k_) ∨ w.heap.size ≤ k_) ∧ some k_ ≠ (v133 : Value).ownBlock)) (zd6 HO142.out) hg hat)
      have n6_ := aM (Kd.N_afterv (ok := (fun k_ => ((P0_ k_ ∨ P1_ k_) ∨ w.heap.size ≤ k_))) (mN_ HO134.out) hg hat)
      have n7_ := aM (hb)
      have n8_ := aM (ho)
      clear HO_0
      clear HO_1
      clear HL117_0
      clear HL119_0
      clear HO128
      clear HO142
      clear HO134
      clear HB
      clear HO123
      have HO_0 := n0_
      have HO_1 := n1_
      have HL117_0 := n2_
      have HL119_0 := n3_
      have HO128 := n4_
      have HO142 := n5_
      have HO134 := n6_
      have HB := n7_
      have HO131 := n8_
      clear n0_ n1_ n2_ n3_ n4_ n5_ n6_ n7_ n8_
      clear ho hb hg hat
      refine hK.out _ _ trivial (fun hHeld => ?_)
      clear hK K
      refine norm_ (a' := ?_) ?_ ?_
      rotate_left
      ·show Act.put _ (some 39) _ = _
       simp only [Act.put, xA, xB, xC, i64_w, i32_w]
       rfl
      exact norm_ (by simp only [putAll, Act.put, xA, xB, xC]) (hCont (v122, v130, v133) _ ⟨(zd42 HL117_0.out), (zd42 HL119_0.out), (zd42 HO128.out), (mN_ HO131.out), (mN_ HO134.out), (zd42 HO142.out), (zd42 HO_0.out), (zd42 HO_1.out), zb⟩)
    ·skip
     refine Kd.N_lit_step (Kd.slice 43 k43) _ 40 ?hg (N' := 41) ?hd (xs := ([l1] : List (List (S43)))) (inner := [.slice A1 l1.length c1]) (ok := (fun k_ => ((P0_ k_ ∨ P1_ k_) ∨ w.heap.size ≤ k_))) (okp := (fun k_ => ((P0_ k_ ∨ P1_ k_) ∨ w.heap.size ≤ k_))) ?hr ?hp (fun _ hk => hk) ((show ∀ k_, w21.heap.size ≤ k_ → (fun k_ => ((P0_ k_ ∨ P1_ k_) ∨ w.heap.size ≤ k_)) k_ from fun k_ hk => (.inr (Nat.le_trans (below_size zb) hk))) _ (Nat.le_refl _)) (Below.refl _ _) (Nat.le_refl _) (by simp) ?_; (case hd => rfl); (case hg => rfl); (case hr => first | (go_simp; done) | (go_simp; rfl)); (case hp => exact (Reps.one (show Kd.FK (Kd.slice 43 k43) _ _ l1 [.slice A1 l1.length c1] from (Kd.FK_slice_mk (Kd.V_reads' (Kd.V_mono (ok' := (fun k_ => ((P0_ k_ ∨ P1_ k_) ∨ w.heap.size ≤ k_))) (HO_1.out) (fun k_ hk => hk))).2.1 (Kd.V_F (Kd.V_mono (ok' := (fun k_ => ((P0_ k_ ∨ P1_ k_) ∨ w.heap.size ≤ k_))) (HO_1.out) (fun k_ hk => hk))))) (Reps.none _ _)))
     intro v133 w24 ho25 hb hg_ hnew_
     clear hg_ hnew_
     (first | rw [← Ny132.out] at ho25 | (simp only [Int.reduceToNat] at ho25; rw [← Ny132.out] at ho25))
     have n0_ := aM (Kd.V_elder' (mV_ HO_0.out) (by first | exact Kd.N_base ho25 | exact Kd.S_base ho25 | exact Kd.R_base ho25) hb)
     have n1_ := aM (Kd.V_elder' (mV_ HO_1.out) (by first | exact Kd.N_base ho25 | exact Kd.S_base ho25 | exact Kd.R_base ho25) hb)
     have n2_ := aM (Kd.V_elder' (mV_ HL117_0.out) (by first | exact Kd.N_base ho25 | exact Kd.S_base ho25 | exact Kd.R_base ho25) hb)
     have n3_ := aM (Kd.V_elder' (mV_ HL119_0.out) (by first | exact Kd.N_base ho25 | exact Kd.S_base ho25 | exact Kd.R_base ho25) hb)
     have n4_ := aM (Kd.V_elder' (mV_ HO128.out) (by first | exact Kd.N_base ho25 | exact Kd.S_base ho25 | exact Kd.R_base ho25) hb)
     have n5_ := aM (Kd.V_elder' (mV_ HO142.out) (by first | exact Kd.N_base ho25 | exact Kd.S_base ho25 | exact Kd.R_base ho25) hb)
     have n6_ := aM (Kd.N_lower ho25 (below_size zb))
     have n7_ := aM (Kd.C_below (mQ_ HR117_0.out) hb)
     have n8_ := aM (Kd.C_below (mQ_ HR119_0.out) hb)
     have n9_ := aM (below_step zb hb)
     clear HO_0
     clear HO_1
     clear HL117_0
     clear HL119_0
     clear HO128
     clear HO142
     clear HR117_0
     clear HR119_0
     clear HB
     have HO_0 := n0_
     have HO_1 := n1_
     have HL117_0 := n2_
     have HL119_0 := n3_
     have HO128 := n4_
     have HO142 := n5_
     have HO134 := n6_
     have HR117_0 := n7_
     have HR119_0 := n8_
     have HB := n9_
     clear n0_ n1_ n2_ n3_ n4_ n5_ n6_ n7_ n8_ n9_
     clear hb ho25
     refine hK.out _ _ trivial (fun hHeld => ?_)
     clear hK K
     refine norm_ (a' := ?_) ?_ ?_
     rotate_left
     ·show Act.put _ (some 41) _ = _
      simp only [Act.put, xA, xB, xC, i64_w, i32_w]
      rfl
     refine one_ (i := 0) (N := some 35) zA79 rfl rfl (one_of HT_.out (by kernel_rfl)) (by decide) (fun K hK => ?_)
     refine Kd.N_lit_step (Kd.slice 43 k43) _ 40 ?hg (N' := 35) ?hd (xs := ([] : List (List (S43)))) (inner := []) (ok := (fun k_ => ((P0_ k_ ∨ P1_ k_) ∨ w.heap.size ≤ k_) ∧ some k_ ≠ (v133 : Value).ownBlock)) (okp := (fun k_ => ((P0_ k_ ∨ P1_ k_) ∨ w.heap.size ≤ k_) ∧ some k_ ≠ (v133 : Value).ownBlock)) ?hr ?hp (fun _ hk => hk) ((show ∀ k_, w24.heap.size ≤ k_ → (fun k_ => ((P0_ k_ ∨ P1_ k_) ∨ w.heap.size ≤ k_) ∧ some k_ ≠ (v133 : Value).ownBlock) k_ from fun k_ hk => ⟨(.inr (Nat.le_trans (below_size zb) hk)), Kd.fresh' (Kd.N_lt (mN_ HO134.out)) k_ hk⟩) _ (Nat.le_refl _)) (Below.refl _ _) (Nat.le_refl _) (by simp) ?_; (case hd => rfl); (case hg => rfl); (case hr => first | (go_simp; done) | (go_simp; rfl)); (case hp => exact (Reps.none _ _))
     intro v122 w26 ho27 hb hg_ hnew_
     clear hg_ hnew_
     (first | rw [← Ny121.out] at ho27 | (simp only [Int.reduceToNat] at ho27; rw [← Ny121.out] at ho27))
     have n0_ := aM (Kd.V_elder' (mV_ HO_0.out) (by first | exact Kd.N_base ho27 | exact Kd.S_base ho27 | exact Kd.R_base ho27) hb)
     have n1_ := aM (Kd.V_elder' (mV_ HO_1.out) (by first | exact Kd.N_base ho27 | exact Kd.S_base ho27 | exact Kd.R_base ho27) hb)
     have n2_ := aM (Kd.V_elder' (mV_ HL117_0.out) (by first | exact Kd.N_base ho27 | exact Kd.S_base ho27 | exact Kd.R_base ho27) hb)
     have n3_ := aM (Kd.V_elder' (mV_ HL119_0.out) (by first | exact Kd.N_base ho27 | exact Kd.S_base ho27 | exact Kd.R_base ho27) hb)
     have n4_ := aM (Kd.V_elder' (mV_ HO128.out) (by first | exact Kd.N_base ho27 | exact Kd.S_base ho27 | exact Kd.R_base ho27) hb)
     have n5_ := aM (Kd.V_elder' (mV_ HO142.out) (by first | exact Kd.N_base ho27 | exact Kd.S_base ho27 | exact Kd.R_base ho27) hb)
     have n6_ := aM (Kd.N_elder' (mN_ HO134.out) (by first | exact Kd.N_base ho27 | exact Kd.S_base ho27 | exact Kd.R_base ho27) hb)
     have n7_ := aM (Kd.N_lower ho27 (below_size zb))
     have n8_ := aM (Kd.C_below (mQ_ HR117_0.out) hb)
     have n9_ := aM (Kd.C_below (mQ_ HR119_0.out) hb)
     have n10_ := aM (below_step zb hb)
     clear HO_0
     clear HO_1
     clear HL117_0
     clear HL119_0
     clear HO128
     clear HO142
     clear HO134
     clear HR117_0
     clear HR119_0
     clear HB
     have HO_0 := n0_
     have HO_1 := n1_
     have HL117_0 := n2_
     have HL119_0 := n3_
     have HO128 := n4_
     have HO142 := n5_
     have HO134 := n6_
     have HO123 := n7_
     have HR117_0 := n8_
     have HR119_0 := n9_
     have HB := n10_
     clear n0_ n1_ n2_ n3_ n4_ n5_ n6_ n7_ n8_ n9_ n10_
     clear hb ho27
     refine hK.out _ _ trivial (fun hHeld => ?_)
     clear hK K
     refine norm_ (a' := ?_) ?_ ?_
     rotate_left
     ·show Act.put _ (some 35) _ = _
      simp only [Act.put, xA, xB, xC, i64_w, i32_w]
      rfl
     refine one_ (i := 4) (N := some 39) zA75 rfl rfl (one_of HT_.out (by kernel_rfl)) (by decide) (fun K hK => ?_)
     refine Kd.N_append_rows_step (Kd.slice 43 k43) (w0 := w) w.heap.size (by rfl) (.tmp 35) (.tmp 38) 28 40 (.slice none 0 0) 24 rfl Try.underlying28 info40 rfl (by decide) (by omega) v122 y121 y124 _ _ _ (fun k_ => ((P0_ k_ ∨ P1_ k_) ∨ w.heap.size ≤ k_) ∧ some k_ ≠ (v133 : Value).ownBlock) (fun k_ => ((fun k_ => ((P0_ k_ ∨ P1_ k_) ∨ w.heap.size ≤ k_) ∧ some k_ ≠ (v133 : Value).ownBlock)) k_ ∧ some k_ ≠ (v122 : Value).ownBlock) rfl rfl ?aO ?aR (fun _ hk => hk) ?aF ?aB ?aS ?aL ?_
     (case aR => exact (by skip; exact Kd.V_F (Kd.V_mono (ok' := (fun k_ => ((fun k_ => ((P0_ k_ ∨ P1_ k_) ∨ w.heap.size ≤ k_) ∧ some k_ ≠ (v133 : Value).ownBlock)) k_ ∧ some k_ ≠ (v122 : Value).ownBlock)) (HO128.out) (fun k_ hk => ⟨⟨hk.1.1, hk.1.2⟩, hk.2⟩))))
     (case aB => exact zb)
     (case aF => exact (fun k_ hk => ⟨(.inr (Nat.le_trans (below_size zb) hk)), Kd.fresh' (Kd.N_lt (mN_ HO134.out)) k_ hk⟩))
     (case aO => exact (mN_ HO123.out))
     (case aS => exact (below_size zb))
     (case aL => have := LMc14.out; omega)
     intro v130 w28 ho hb hg hat
     rw [← Ny129.out] at ho
     have n0_ := aM (Kd.V_afterv (ok := (fun k_ => ((P0_ k_ ∨ P1_ k_) ∨ w.heap.size ≤ k_) ∧ some k_ ≠ (v133 : Value).ownBlock)) (mV_ HO_0.out) hg hat)
     have n1_ := aM (Kd.V_afterv (ok := (fun k_ => ((P0_ k_ ∨ P1_ k_) ∨ w.heap.size ≤ k_) ∧ some k_ ≠ (v133 : Value).ownBlock)) (mV_ HO_1.out) hg hat)
     have n2_ := aM (Kd.V_afterv (ok := (fun k_ => ((P0_ k_ ∨ P1_ k_) ∨ w.heap.size ≤ k_) ∧ some k_ ≠ (v133 : Value).ownBlock)) (mV_ HL117_0.out) hg hat)
     have n3_ := aM (Kd.V_afterv (ok := (fun k_ => ((P0_ k_ ∨ P1_ k_) ∨ w.heap.size ≤ k_) ∧ some k_ ≠ (v133 : Value).ownBlock)) (mV_ HL119_0.out) hg hat)
     have n4_ := aM (Kd.V_afterv (ok := (fun k_ => ((P0_ k_ ∨ P1_ k_) ∨ w.heap.size ≤ k_) ∧ some k_ ≠ (v133 : Value).ownBlock)) (mV_ HO128.out) hg hat)
     have n5_ := aM (Kd.V_afterv (ok := (fun k_ => ((P0_ k_ ∨ P1_ k_) ∨ w.heap.size ≤ k_) ∧ some k_ ≠ (v133 : Value).ownBlock)) (mV_ HO142.out) hg hat)
     have n6_ := aM (Kd.N_afterv (ok := (fun k_ => ((P0_ k_ ∨ P1_ k_) ∨ w.heap.size ≤ k_))) (mN_ HO134.out) hg hat)
     have n7_ := aM (hb)
     have n8_ := aM (ho)
     clear HO_0
     clear HO_1
     clear HL117_0
     clear HL119_0
     clear HO128
     clear HO142
     clear HO134
     clear HB
     clear HO123
     have HO_0 := n0_
     have HO_1 := n1_
     have HL117_0 := n2_
     have HL119_0 := n3_
     have HO128 := n4_
     have HO142 := n5_
     have HO134 := n6_
     have HB := n7_
     have HO131 := n8_
     clear n0_ n1_ n2_ n3_ n4_ n5_ n6_ n7_ n8_
     clear ho hb hg hat
     refine hK.out _ _ trivial (fun hHeld => ?_)
     clear hK K
     refine norm_ (a' := ?_) ?_ ?_
     rotate_left
     ·show Act.put _ (some 39) _ = _
      simp only [Act.put, xA, xB, xC, i64_w, i32_w]
      rfl
     exact norm_ (by simp only [putAll, Act.put, xA, xB, xC]) (hCont (v122, v130, v133) _ ⟨(zd42 HL117_0.out), (zd42 HL119_0.out), (zd42 HO128.out), (mN_ HO131.out), (mN_ HO134.out), (zd42 HO142.out), (zd42 HO_0.out), (zd42 HO_1.out), zb⟩)
   rintro ⟨v122, v130, v133⟩ w29 ⟨h0_, h1_, h2_, h3_, h4_, h5_, h6_, h7_, h8_⟩
   have n0_ : Aside0 (Kd.V k43 43 w29 w.heap.size (fun k_ => ((P0_ k_ ∨ P1_ k_) ∨ w.heap.size ≤ k_) ∧ some k_ ≠ (v130 : Value).ownBlock ∧ some k_ ≠ (v133 : Value).ownBlock) (.slice A117_0 (rd_L2 l0 x5_1).length c117_0) (rd_L2 l0 x5_1)) := ⟨h0_⟩
   have n1_ : Aside0 (Kd.V k43 43 w29 w.heap.size (fun k_ => ((P0_ k_ ∨ P1_ k_) ∨ w.heap.size ≤ k_) ∧ some k_ ≠ (v130 : Value).ownBlock ∧ some k_ ≠ (v133 : Value).ownBlock) (.slice A119_0 (rd_L2 l0 x5_1).length c119_0) (rd_L2 l0 x5_1)) := ⟨h1_⟩
   have n2_ : Aside0 (Kd.V (Kd.slice 43 k43) 40 w29 w.heap.size (fun k_ => ((P0_ k_ ∨ P1_ k_) ∨ w.heap.size ≤ k_) ∧ some k_ ≠ (v130 : Value).ownBlock ∧ some k_ ≠ (v133 : Value).ownBlock) (.slice (some ad117) y124.length c0) y124) := ⟨h2_⟩
   have n3_ : Aside0 (Kd.N (Kd.slice 43 k43) 40 w29 w.heap.size (fun k_ => ((P0_ k_ ∨ P1_ k_) ∨ w.heap.size ≤ k_) ∧ some k_ ≠ (v133 : Value).ownBlock) v130 y129) := ⟨h3_⟩
   have n4_ : Aside0 (Kd.N (Kd.slice 43 k43) 40 w29 w.heap.size (fun k_ => ((P0_ k_ ∨ P1_ k_) ∨ w.heap.size ≤ k_) ∧ some k_ ≠ (v130 : Value).ownBlock) v133 y132) := ⟨h4_⟩
   have n5_ : Aside0 (Kd.V (Kd.slice 43 k43) 40 w29 w.heap.size (fun k_ => ((P0_ k_ ∨ P1_ k_) ∨ w.heap.size ≤ k_) ∧ some k_ ≠ (v130 : Value).ownBlock ∧ some k_ ≠ (v133 : Value).ownBlock) (.slice A23 y138.length c23) y138) := ⟨h5_⟩
   have n6_ : Aside0 (Kd.V (Kd.slice 43 k43) 40 w29 w.heap.size (fun k_ => ((P0_ k_ ∨ P1_ k_) ∨ w.heap.size ≤ k_) ∧ some k_ ≠ (v130 : Value).ownBlock ∧ some k_ ≠ (v133 : Value).ownBlock) (.slice (some ad117) l0.length c0) l0) := ⟨h6_⟩
   have n7_ : Aside0 (Kd.V k43 43 w29 w.heap.size (fun k_ => ((P0_ k_ ∨ P1_ k_) ∨ w.heap.size ≤ k_) ∧ some k_ ≠ (v130 : Value).ownBlock ∧ some k_ ≠ (v133 : Value).ownBlock) (.slice A1 l1.length c1) l1) := ⟨h7_⟩
   have n8_ : Aside0 (Below w.heap.size w w29) := ⟨h8_⟩
   clear HO_0
   clear HO_1
   clear HL117_0
   clear HL119_0
   clear HR117_0
   clear HR119_0
   clear HB
   clear h0_ h1_ h2_ h3_ h4_ h5_ h6_ h7_ h8_
   have HL117_0 := n0_
   have HL119_0 := n1_
   have HO128 := n2_
   have HO131 := n3_
   have HO134 := n4_
   have HO142 := n5_
   have HO_0 := n6_
   have HO_1 := n7_
   have HB := n8_
   clear n0_ n1_ n2_ n3_ n4_ n5_ n6_ n7_ n8_
   have hHeld := trivial
   obtain ⟨Ao31, co31, eo31⟩ := Kd.N_slice HO134.out
   (first | subst eo31 | (injection eo31 with f1_ f2_ f3_; have f4_ := f1_.symm; have f5_ := f3_.symm; clear f1_ f2_ f3_; subst f4_; subst f5_))
   refine norm_ (a' := ?_) ?_ ?_
   rotate_left
   ·simp only [putAll, Act.put, xA, xB, xC]
    rfl
   refine one_ (i := 7) (N := some 42) zA65 rfl rfl (one_of HT_.out (by kernel_rfl)) (by decide) (fun K hK => ?_)
   refine Kd.N_append_rows_step (Kd.slice 43 k43) (w0 := w) w.heap.size (by rfl) (.tmp 39) (.tmp 41) 28 40 (.slice none 0 0) 24 rfl Try.underlying28 info40 rfl (by decide) (by omega) v130 y129 y132 _ _ _ (fun k_ => ((P0_ k_ ∨ P1_ k_) ∨ w.heap.size ≤ k_)) (fun k_ => ((fun k_ => ((P0_ k_ ∨ P1_ k_) ∨ w.heap.size ≤ k_))) k_ ∧ some k_ ≠ (v130 : Value).ownBlock) rfl rfl ?aO ?aR (fun _ hk => hk) ?aF ?aB ?aS ?aL ?_
   (case aR => exact (by skip; exact Kd.N_F (Kd.N_mono (ok' := (fun k_ => ((fun k_ => ((P0_ k_ ∨ P1_ k_) ∨ w.heap.size ≤ k_))) k_ ∧ some k_ ≠ (v130 : Value).ownBlock)) (HO134.out) (fun k_ hk => ⟨hk.1, hk.2⟩))))
   (case aB => exact zb)
   (case aF => exact (fun k_ hk => (.inr (Nat.le_trans (below_size zb) hk))))
   (case aO => exact (zd8 HO131.out))
   (case aS => exact (below_size zb))
   (case aL => have := LMc15.out; omega)
   intro v136 w30 ho hb hg hat
   rw [← Ny135.out] at ho
   have n0_ := aM (Kd.V_afterv (ok := (fun k_ => ((P0_ k_ ∨ P1_ k_) ∨ w.heap.size ≤ k_) ∧ some k_ ≠ (.slice Ao31 y132.length co31 : Value).ownBlock)) (zd43 HO_0.out) hg hat)
   have n1_ := aM (Kd.V_afterv (ok := (fun k_ => ((P0_ k_ ∨ P1_ k_) ∨ w.heap.size ≤ k_) ∧ some k_ ≠ (.slice Ao31 y132.length co31 : Value).ownBlock)) (zd43 HO_1.out) hg hat)
   have n2_ := aM (Kd.V_afterv (ok := (fun k_ => ((P0_ k_ ∨ P1_ k_) ∨ w.heap.size ≤ k_) ∧ some k_ ≠ (.slice Ao31 y132.length co31 : Value).ownBlock)) (zd43 HL117_0.out) hg hat)
   have n3_ := aM (Kd.V_afterv (ok := (fun k_ => ((P0_ k_ ∨ P1_ k_) ∨ w.heap.size ≤ k_) ∧ some k_ ≠ (.slice Ao31 y132.length co31 : Value).ownBlock)) (zd43 HL119_0.out) hg hat)
   have n4_ := aM (Kd.V_afterv (ok := (fun k_ => ((P0_ k_ ∨ P1_ k_) ∨ w.heap.size ≤ k_) ∧ some k_ ≠ (.slice Ao31 y132.length co31 : Value).ownBlock)) (zd43 HO128.out) hg hat)
   have n5_ := aM (Kd.V_afterv (ok := (fun k_ => ((P0_ k_ ∨ P1_ k_) ∨ w.heap.size ≤ k_) ∧ some k_ ≠ (.slice Ao31 y132.length co31 : Value).ownBlock)) (zd43 HO142.out) hg hat)
   have n6_ := aM (Kd.N_afterv (ok := (fun k_ => ((P0_ k_ ∨ P1_ k_) ∨ w.heap.size ≤ k_))) (mN_ HO134.out) hg hat)
   have n7_ := aM (hb)
   have n8_ := aM (ho)
   clear HO_0
   clear HO_1
   clear HL117_0
   clear HL119_0
   clear HO128
   clear HO142
   clear HO134
   clear HB
   clear HO131
   have HO_0 := n0_
   have HO_1 := n1_
   have HL117_0 := n2_
   have HL119_0 := n3_
   have HO128 := n4_
   have HO142 := n5_
   have HO134 := n6_
   have HB := n7_
   have HO137 := n8_
   clear n0_ n1_ n2_ n3_ n4_ n5_ n6_ n7_ n8_
   clear ho hb hg hat
   refine hK.out _ _ trivial (fun hHeld => ?_)
   clear hK K
   refine norm_ (a' := ?_) ?_ ?_
   rotate_left
   ·show Act.put _ (some 42) _ = _
    simp only [Act.put, xA, xB, xC, i64_w, i32_w]
    rfl
   refine one_ (i := 11) (N := some 46) zA66 rfl rfl (one_of HT_.out (by kernel_rfl)) (by decide) (fun K hK => ?_)
   refine Kd.N_append_rows_step (Kd.slice 43 k43) (w0 := w) w.heap.size (by rfl) (.tmp 42) (.tmp 45) 28 40 (.slice none 0 0) 24 rfl Try.underlying28 info40 rfl (by decide) (by omega) v136 y135 y138 _ _ _ (fun k_ => ((P0_ k_ ∨ P1_ k_) ∨ w.heap.size ≤ k_)) (fun k_ => ((fun k_ => ((P0_ k_ ∨ P1_ k_) ∨ w.heap.size ≤ k_))) k_ ∧ some k_ ≠ (v136 : Value).ownBlock) rfl rfl ?aO ?aR (fun _ hk => hk) ?aF ?aB ?aS ?aL ?_
   (case aR => exact (by skip; exact Kd.V_F (Kd.V_mono (ok' := (fun k_ => ((fun k_ => ((P0_ k_ ∨ P1_ k_) ∨ w.heap.size ≤ k_))) k_ ∧ some k_ ≠ (v136 : Value).ownBlock)) (HO142.out) (fun k_ hk => ⟨hk.1.1, hk.2⟩))))
   (case aB => exact zb)
   (case aF => exact (fun k_ hk => (.inr (Nat.le_trans (below_size zb) hk))))
   (case aO => exact (mN_ HO137.out))
   (case aS => exact (below_size zb))
   (case aL => have := LMc18.out; omega)
   intro v144 w32 ho hb hg hat
   rw [← Ny143.out] at ho
   have n0_ := aM (Kd.V_afterv (ok := (fun k_ => ((P0_ k_ ∨ P1_ k_) ∨ w.heap.size ≤ k_) ∧ some k_ ≠ (.slice Ao31 y132.length co31 : Value).ownBlock)) (mV_ HO_0.out) hg hat)
   have n1_ := aM (Kd.V_afterv (ok := (fun k_ => ((P0_ k_ ∨ P1_ k_) ∨ w.heap.size ≤ k_) ∧ some k_ ≠ (.slice Ao31 y132.length co31 : Value).ownBlock)) (mV_ HO_1.out) hg hat)
   have n2_ := aM (Kd.V_afterv (ok := (fun k_ => ((P0_ k_ ∨ P1_ k_) ∨ w.heap.size ≤ k_) ∧ some k_ ≠ (.slice Ao31 y132.length co31 : Value).ownBlock)) (mV_ HL117_0.out) hg hat)
   have n3_ := aM (Kd.V_afterv (ok := (fun k_ => ((P0_ k_ ∨ P1_ k_) ∨ w.heap.size ≤ k_) ∧ some k_ ≠ (.slice Ao31 y132.length co31 : Value).ownBlock)) (mV_ HL119_0.out) hg hat)
   have n4_ := aM (Kd.V_afterv (ok := (fun k_ => ((P0_ k_ ∨ P1_ k_) ∨ w.heap.size ≤ k_) ∧ some k_ ≠ (.slice Ao31 y132.length co31 : Value).ownBlock)) (mV_ HO128.out) hg hat)
   have n5_ := aM (Kd.V_afterv (ok := (fun k_ => ((P0_ k_ ∨ P1_ k_) ∨ w.heap.size ≤ k_) ∧ some k_ ≠ (.slice Ao31 y132.length co31 : Value).ownBlock)) (mV_ HO142.out) hg hat)
   have n6_ := aM (Kd.N_afterv (ok := (fun k_ => ((P0_ k_ ∨ P1_ k_) ∨ w.heap.size ≤ k_))) (mN_ HO134.out) hg hat)
   have n7_ := aM (hb)
   have n8_ := aM (ho)
   clear HO_0
   clear HO_1
   clear HL117_0
   clear HL119_0
   clear HO128
   clear HO142
   clear HO134
   clear HB
   clear HO137
   have HO_0 := n0_
   have HO_1 := n1_
   have HL117_0 := n2_
   have HL119_0 := n3_
   have HO128 := n4_
   have HO142 := n5_
   have HO134 := n6_
   have HB := n7_
   have HO145 := n8_
   clear n0_ n1_ n2_ n3_ n4_ n5_ n6_ n7_ n8_
   clear ho hb hg hat
   refine hK.out _ _ trivial (fun hHeld => ?_)
   clear hK K
   refine norm_ (a' := ?_) ?_ ?_
   rotate_left
   ·show Act.put _ (some 46) _ = _
    simp only [Act.put, xA, xB, xC, i64_w, i32_w]
    rfl
   refine zp 12 (some 4) ?_ zA67 rfl rfl (Or.inl ⟨by rfl, ?_⟩) ?_ ?_ ?_
   rotate_left
   ·intro w'
    go_simp
    with_reducible rfl
   rotate_left
   ·simp only [Act.put, xA, xB, xC, i64_w, i32_w]
    rfl
   refine done_ (done_of HT_.out (by kernel_rfl)) ?_
   try go_wp2
   go_ret
   exact ⟨_, zw, Kd.N_V (mN_ HO145.out), zb⟩
end Go.Proofs.Ytlompfboheiliaa.F
end
section
namespace Go.Proofs.Ytlompfboheiliaa.F
open Go.RowKit Go.Proofs.YtlompfboheiliaaW.PrintWords Go.Proofs.YtlompfboheiliaaW.PrintLast Go.Proofs.YtlompfboheiliaaW.PrintMore
attribute [local go_sem] max2_int min2_int max_two min_two max_three min_three max_four min_four
set_option linter.unusedVariables false
set_option linter.unusedSimpArgs false
mutual
def spec_l09All.l0 : Nat → Int → List (List (S43)) → Int → Option ((List (List (S43))))
 | 0, _, _, _ => none
 | k + 1, x0, x3, x4 => if x4 < x0 then (spec_l09All.l1 k x0 x3 x4 (([] : List (List (S43)))) 0) else (some x3)
def spec_l09All.l1 : Nat → Int → List (List (S43)) → Int → List (List (S43)) → Int → Option ((List (List (S43))))
 | 0, _, _, _, _, _ => none
 | k + 1, x0, x3, x4, x5, x6 => if x6 < (x3.length : Int) then (spec_l09All.l2 k x0 x3 x4 x5 x6 0) else (spec_l09All.l0 k x0 x5 (wrap64 (x4 + 1)))
def spec_l09All.l2 : Nat → Int → List (List (S43)) → Int → List (List (S43)) → Int → Int → Option ((List (List (S43))))
 | 0, _, _, _, _, _, _ => none
 | k + 1, x0, x3, x4, x5, x6, x7 => if 0 ≤ x6 then (if x6 < (x3.length : Int) then (if x7 < ((rd_L2 x3 x6).length : Int) then (spec_l09All.l3 k x0 x3 x4 x5 x6 x7 0) else (spec_l09All.l1 k x0 x3 x4 x5 (wrap64 (x6 + 1)))) else (none)) else (none)
def spec_l09All.l3 : Nat → Int → List (List (S43)) → Int → List (List (S43)) → Int → Int → Int → Option ((List (List (S43))))
 | 0, _, _, _, _, _, _, _ => none
 | k + 1, x0, x3, x4, x5, x6, x7, x8 => if x8 < 6 then (if 0 ≤ x6 then (if x6 < (x3.length : Int) then (if 0 ≤ x7 then (if x7 < ((rd_L2 x3 x6).length : Int) then ((spec_l09Steps.f).bind fun t257 => (if 0 ≤ x8 then (if x8 < (t257.length : Int) then ((spec_l09Add.f ((rd_T43 (rd_L2 x3 x6) x7).f0) ((rd_T43 (rd_L2 x3 x6) x7).f1) ((rd_T43 (rd_L2 x3 x6) x7).f2) ((rd_T43 t257 x8).f0) ((rd_T43 t257 x8).f1) ((rd_T43 t257 x8).f2)).bind fun bt261 => ((spec_l09Index.f k (rd_L2 x3 x6) bt261.1 bt261.2.1 bt261.2.2).bind fun t266 => (if t266 < 0 then ((some (([] : List (S43)) : List (S43))).bind fun y267 => (if y267.length + (rd_L2 x3 x6).length < 5864062014805 then ((some (y267 ++ (rd_L2 x3 x6) : List (S43))).bind fun y271 => ((some (([(⟨bt261.1, bt261.2.1, bt261.2.2⟩ : S43)] : List (S43)) : List (S43))).bind fun y274 => (if y271.length + y274.length < 5864062014805 then ((spec_l09Sort.f k (y271 ++ y274)).bind fun t280 => ((spec_l09Normal.f k t280).bind fun t283 => ((spec_l09Insert.f k x5 t283).bind fun t286 => (spec_l09All.l3 k x0 x3 x4 t286 x6 x7 (wrap64 (x8 + 1)))))) else (none)))) else (none))) else (spec_l09All.l3 k x0 x3 x4 x5 x6 x7 (wrap64 (x8 + 1)))))) else (none)) else (none))) else (none)) else (none)) else (none)) else (none)) else (spec_l09All.l2 k x0 x3 x4 x5 x6 (wrap64 (x7 + 1)))
end
def spec_l09All.f (k : Nat) (a0 : Int) : Option ((List (List (S43)))) := spec_l09All.l0 k a0 (([(([(⟨0, 0, 0⟩ : S43)] : List (S43)))] : List (List (S43)))) 1
def spec_l09All.T15 : Bool × List (List Nat × List Nat) := (true, [([], []), ([], []), ([0, 1], [0, 1]), ([2], [2]), ([], []), ([3, 4], [3, 4]), ([5], [5]), ([], []), ([], []), ([7, 8], [7, 8]), ([9], [9]), ([6, 10, 7], [6, 10]), ([], []), ([12, 11, 11, 0, 1, 2, 3, 4, 5, 6, 7, 8, 9, 10, 11, 12], [11, 12])])
def spec_l09All.B15 : List Nat := [0, 0, 3, 7, 0, 31, 63, 0, 0, 384, 896, 2047, 0, 8191]
theorem spec_l09All.tab15 : rtab .any (opsOf Try.f16 15) = spec_l09All.T15 := by kernel_rfl
theorem spec_l09All.bits15 : waitsOk spec_l09All.T15.2 spec_l09All.B15 = true := by kernel_rfl
def spec_l09All.T17 : Bool × List (List Nat × List Nat) := (true, [([], []), ([], []), ([], []), ([], []), ([2, 3], [2, 3]), ([4], [4]), ([1, 5], [1, 5]), ([], []), ([7], [7]), ([6, 8, 6], [6, 8]), ([9, 9], [9]), ([10, 10], [10]), ([0, 11, 11], [0, 11]), ([12, 12, 0, 1, 2, 3, 4, 5, 6, 7, 8, 9, 10, 11, 12], [0, 12])])
def spec_l09All.B17 : List Nat := [0, 0, 0, 0, 12, 28, 62, 0, 128, 510, 1022, 2046, 4095, 8191]
theorem spec_l09All.tab17 : rtab .any (opsOf Try.f16 17) = spec_l09All.T17 := by kernel_rfl
theorem spec_l09All.bits17 : waitsOk spec_l09All.T17.2 spec_l09All.B17 = true := by kernel_rfl
end Go.Proofs.Ytlompfboheiliaa.F
end
