/- The row of FnExactHexShapes, with what it needs: text 9 of 11. -/
import Derived.Test.YtibbjiehblpmfaaKHS7
import Derived.ChangeArms
import Derived.ChangeSame
import Derived.Deep.Fields
import Derived.Deep.Slices
import Derived.Deep.Strs
import Derived.WideShapes
set_option maxHeartbeats 8000000
set_option maxRecDepth 100000
section
namespace Go.Proofs.Ytibbjiehblpmfaa.F
open Go.RowKit Go.Proofs.YtibbjiehblpmfaaW.PrintWords Go.Proofs.YtibbjiehblpmfaaW.PrintLast Go.Proofs.YtibbjiehblpmfaaW.PrintMore
attribute [local go_sem] max2_int min2_int max_two min_two max_three min_three max_four min_four
set_option linter.unusedVariables false
set_option linter.unusedSimpArgs false
theorem impl_leastForm__impl_hexForm.calls (k : Nat) (A0 : Option Addr) (c0 : Nat) (l0 : List (S43))  (r1 : List (S43)) (r2 : Bool) (w : World) (hr0 : Kd.C k43 w A0 l0.length l0) (hc0 : l0.length ≤ c0) (h : impl_leastForm__impl_hexForm.f k l0 = some (r1, r2)) :
  Calls Try.prog 32 #[.slice A0 l0.length c0, .func (.func 18) #[] #[]] w fun e w' => ∃ v0_ : Value, e = .returned (.tuple #[v0_, .bool r2]) ∧ Kd.R k43 43 w' w.heap.size (fun _ => True) v0_ r1 ∧ Below w.heap.size w w' := by
 have HR0 := aM hr0
 have HC0 := aM hc0
 clear hr0 hc0
 have HB := aM (Below.refl w.heap.size w)
 have H : (impl_leastForm__impl_hexForm.l0 k l0 (([] : List (List (S43)))) 0) = some (r1, r2) := h
 clear h
 obtain ⟨y452, hy452⟩ : ∃ y_ : List (List (S43)), y_ = (([] : List (List (S43)))) := ⟨_, rfl⟩
 replace H : (impl_leastForm__impl_hexForm.l0 k l0 y452 0) = some (r1, r2) := zy H hy452
 have Ny452 := aM hy452
 clear hy452
 have H' := aM H
 clear H
 go_enter Try.func32, Try.ntmps32
 go_wp2_with (first | ((with_reducible refine gate_dst (N := 9) rfl ?_); refine Kd.S_lit (Kd.slice 43 k43) _ 36 ?hg (N := 9) ?hd (xs := ([] : List (List (S43)))) (inner := []) (ok := fun _ => True) (okp := fun _ => True) ?hr ?hp (fun _ hk => hk) trivial (Below.refl _ _) (Nat.le_refl _) (by simp) ?_; (case hd => rfl); (case hg => rfl); (case hr => first | (go_simp; done) | (go_simp; rfl)); (case hp => exact (Reps.none _ _)); intro v453 w3 ho4 hb hg_ hnew_; clear hg_ hnew_; (first | rw [← Ny452.out] at ho4 | (simp only [Int.reduceToNat] at ho4; rw [← Ny452.out] at ho4)); have n0_ := aM (Kd.S_lower (Kd.S_newM (M := fun k_ => (w.heap.size ≤ k_)) ho4 (below_size zb) (fun k_ h_ => h_)) (below_size zb)); have n1_ := aM (below_step zb hb); clear HB; have HO454 := n0_; have HB := n1_; clear n0_ n1_; clear hb ho4))
 go_loopg [6, 10] k (fun kq v6 v10 w' => ∃ (x6_1 : List (List (S43))) (x10_1 : Int), v10 = .int .i64 x10_1 ∧ Aside0 (impl_leastForm__impl_hexForm.l0 kq l0 x6_1 x10_1 = some (r1, r2)) ∧ Aside0 (kq ≤ k) ∧ Aside0 (Kd.S (Kd.slice 43 k43) 36 w' w.heap.size (fun k_ => (w.heap.size ≤ k_)) v6 x6_1) ∧ Aside0 (Below w.heap.size w w'))
 case atStart => exact ⟨(y452), (0), zr, H', ⟨Nat.le_refl _⟩, ⟨zd31 HO454.out⟩, ⟨zb⟩⟩
 case round =>
  clear H'
  try clear p2
  obtain ⟨x6_1, x10_1, rfl, HA, HK1, HO_6, HB⟩ := hrel
  cases gk with
  | zero => exact absurd HA.out (by simp [impl_leastForm__impl_hexForm.l0])
  | succ k1 =>
   have H := HA.out
   clear HA
   simp only [impl_leastForm__impl_hexForm.l0] at H
   by_cases c5 : x10_1 < 12
   rotate_left
   ·rw [if_neg c5] at H
    have c5b0 : decide (x10_1 < 12) = false := decide_eq_false c5
    clear c5
    replace H := Option.bind_eq_some_iff.mp H
    obtain ⟨t455, A170, H⟩ := H
    replace H : (some (t455, true)) = some (r1, r2) := H
    have A17 := aM A170
    clear A170
    simp only [Option.some.injEq, Prod.mk.injEq] at H
    obtain ⟨rfl, rfl⟩ := H
    obtain ⟨Ao18, co18, eo18⟩ := Kd.S_slice HO_6.out
    subst eo18
    go_wp2_with (first | ((with_reducible refine gate_callee (f := 48) rfl ?_); refine goesL_ (some 26) rfl rfl Try.func48 (by kernel_rfl) rfl #[.slice Ao18 x6_1.length co18] rfl zm ?_; (with_reducible refine (impl_leastOf.callsE k1 (fun k_ => (w.heap.size ≤ k_)) _ _ x6_1 t455 _ ?side1 A17.out).mono ?_); (case side1 => exact Kd.S_V (HO_6.out)); rintro e w19 ⟨v456, rfl, ho0, hb, hel⟩; have HE := aM hel; clear hel; refine ⟨_, rfl, ?_⟩; have n0_ := aM (Kd.S_below (mS_ HO_6.out) hb); have n1_ := aM (Kd.V_lower (Kd.V_mono (ok' := fun k_ => (w.heap.size ≤ k_)) ho0 (fun k_ hk_ => Or.elim hk_ (fun hs_ => hs_) (fun hn_ => (Nat.le_trans (below_size zb) hn_)))) (below_size zb)); have n2_ := aM (below_step zb hb); clear HO_6 HB; have HO_6 := n0_; have HO457 := n1_; have HB := n2_; clear n0_ n1_ n2_; (try clear hb); (try clear hb2); (try clear hk); (try clear hi); (try clear ho0)))
    go_ret2
    exact ⟨_, zw, Kd.R_mono (S_el HO_6.out HE.out) (fun _ _ => trivial), zb⟩
   rw [if_pos c5] at H
   have c5b0 : decide (x10_1 < 12) = true := decide_eq_true c5
   clear c5
   replace H := Option.bind_eq_some_iff.mp H
   obtain ⟨t458, A60, H⟩ := H
   replace H : ((impl_IsShape.f k1 t458).bind fun t461 => (if t461 = true then (if x6_1.length < 5864062014805 then (impl_leastForm__impl_hexForm.l0 k1 l0 (x6_1 ++ [t458]) (wrap64 (x10_1 + 1))) else (none)) else (some (([] : List (S43)), false)))) = some (r1, r2) := H
   have A6 := aM A60
   clear A60
   replace H := Option.bind_eq_some_iff.mp H
   obtain ⟨t461, A70, H⟩ := H
   replace H : (if t461 = true then (if x6_1.length < 5864062014805 then (impl_leastForm__impl_hexForm.l0 k1 l0 (x6_1 ++ [t458]) (wrap64 (x10_1 + 1))) else (none)) else (some (([] : List (S43)), false))) = some (r1, r2) := H
   have A7 := aM A70
   clear A70
   by_cases c8 : t461 = true
   rotate_left
   ·replace c8 := Bool.eq_false_iff.mpr c8
    subst c8
    have H1 : (some (([] : List (S43)), false)) = some (r1, r2) := by rw [if_neg (show ¬ (false = true) by decide)] at H; exact H
    clear H
    have H := H1
    clear H1
    simp only [Option.some.injEq, Prod.mk.injEq] at H
    obtain ⟨rfl, rfl⟩ := H
    go_wp2_with (first | (go_at_call 18; (with_reducible refine (impl_hexForm.calls k1 _ _ l0 x10_1 t458 _ ?side1 ?side2 A6.out).mono ?_); (case side1 => repeat (first | exact (Kd.C_below HR0.out HB.out) | (with_reducible refine Kd.C_alloc ?_ _) | (with_reducible refine Kd.C_drewN ?_ _) | (with_reducible refine Kd.C_drew ?_))); (case side2 => exact HC0.out); rintro e w14 ⟨v459, rfl, ho0, hb⟩; have n0_ := aM (Kd.S_elder' (mS_ HO_6.out) (Kd.R_base ho0) hb); have n1_ := aM (Kd.R_lower (Kd.R_newM (M := fun k_ => (w.heap.size ≤ k_)) ho0 (below_size zb) (fun k_ h_ => h_)) (below_size zb)); have n2_ := aM (below_step zb hb); clear HO_6 HB; have HO_6 := n0_; have HO460 := n1_; have HB := n2_; clear n0_ n1_ n2_; (try clear hb); (try clear hb2); (try clear hk); (try clear hi); (try clear ho0); obtain ⟨Ao15, co15, eo15⟩ := Kd.R_slice HO460.out; subst eo15) | ((with_reducible refine gate_callee (f := 47) rfl ?_); refine goesL_ (some 18) rfl rfl Try.func47 (by kernel_rfl) rfl #[.slice Ao15 t458.length co15] rfl zm ?_; (with_reducible refine (impl_IsShape.calls k1 _ _ t458 false _ ?side1 ?side2 A7.out).mono ?_); (case side1 => exact zc HO460.out); (case side2 => exact (Kd.R_reads' HO460.out).2.1); rintro e w16 ⟨rfl, hb⟩; refine ⟨_, rfl, ?_⟩; have n0_ := aM (Kd.S_below (mS_ HO_6.out) hb); have n1_ := aM (Kd.R_below (mR_ HO460.out) hb); have n2_ := aM (below_step zb hb); clear HO_6 HO460 HB; have HO_6 := n0_; have HO460 := n1_; have HB := n2_; clear n0_ n1_ n2_; (try clear hb); (try clear hb2); (try clear hk); (try clear hi)))
    go_ret2
    exact ⟨_, zw, Kd.R_nil _ _ _ _ _, zb⟩
   subst c8
   have H1 : (if x6_1.length < 5864062014805 then (impl_leastForm__impl_hexForm.l0 k1 l0 (x6_1 ++ [t458]) (wrap64 (x10_1 + 1))) else (none)) = some (r1, r2) := by rw [if_pos rfl] at H; exact H
   clear H
   have H := H1
   clear H1
   by_cases c9 : x6_1.length < 5864062014805
   rotate_left
   ·rw [if_neg c9] at H
    exact absurd H (by simp)
   rw [if_pos c9] at H
   have LMc9 := aM c9
   clear c9
   obtain ⟨y462, hy462⟩ : ∃ y_ : List (List (S43)), y_ = (x6_1 ++ [t458]) := ⟨_, rfl⟩
   replace H : (impl_leastForm__impl_hexForm.l0 k1 l0 y462 (wrap64 (x10_1 + 1))) = some (r1, r2) := zy H hy462
   have Ny462 := aM hy462
   clear hy462
   have H' := aM H
   clear H
   go_wp2_with (first | (go_at_call 18; (with_reducible refine (impl_hexForm.calls k1 _ _ l0 x10_1 t458 _ ?side1 ?side2 A6.out).mono ?_); (case side1 => repeat (first | exact (Kd.C_below HR0.out HB.out) | (with_reducible refine Kd.C_alloc ?_ _) | (with_reducible refine Kd.C_drewN ?_ _) | (with_reducible refine Kd.C_drew ?_))); (case side2 => exact HC0.out); rintro e w10 ⟨v459, rfl, ho0, hb⟩; have n0_ := aM (Kd.S_elder' (mS_ HO_6.out) (Kd.R_base ho0) hb); have n1_ := aM (Kd.R_lower (Kd.R_newM (M := fun k_ => (w.heap.size ≤ k_)) ho0 (below_size zb) (fun k_ h_ => h_)) (below_size zb)); have n2_ := aM (below_step zb hb); clear HO_6 HB; have HO_6 := n0_; have HO460 := n1_; have HB := n2_; clear n0_ n1_ n2_; (try clear hb); (try clear hb2); (try clear hk); (try clear hi); (try clear ho0); obtain ⟨Ao11, co11, eo11⟩ := Kd.R_slice HO460.out; subst eo11) | ((with_reducible refine gate_callee (f := 47) rfl ?_); refine goesL_ (some 18) rfl rfl Try.func47 (by kernel_rfl) rfl #[.slice Ao11 t458.length co11] rfl zm ?_; (with_reducible refine (impl_IsShape.calls k1 _ _ t458 true _ ?side1 ?side2 A7.out).mono ?_); (case side1 => exact zc HO460.out); (case side2 => exact (Kd.R_reads' HO460.out).2.1); rintro e w12 ⟨rfl, hb⟩; refine ⟨_, rfl, ?_⟩; have n0_ := aM (Kd.S_below (mS_ HO_6.out) hb); have n1_ := aM (Kd.R_below (mR_ HO460.out) hb); have n2_ := aM (below_step zb hb); clear HO_6 HO460 HB; have HO_6 := n0_; have HO460 := n1_; have HB := n2_; clear n0_ n1_ n2_; (try clear hb); (try clear hb2); (try clear hk); (try clear hi)) | ((with_reducible refine gate_builtin (b := .append) (xs := #[.tmp 20, .tmp 22]) rfl ?_); at_builtin; refine Kd.S_append (Kd.slice 43 k43) (w0 := w) w.heap.size rfl (.tmp 20) (.tmp 22) 22 36 (.slice none 0 0) 24 rfl Try.underlying22 info36 rfl (by decide) (by omega) u6 x6_1 t458 [.slice Ao11 t458.length co11] (fun k_ => (w.heap.size ≤ k_)) (fun k_ => some k_ = (.slice Ao11 t458.length co11 : Value).ownBlock) rfl rfl ?aP (fun k_ hk_ => ((Kd.R_mono (ok' := fun k_ => ((fun k_ => (w.heap.size ≤ k_))) k_ ∧ some k_ ≠ (u6 : Value).ownBlock) (Kd.R_apart' (HO460.out) (Kd.S_typed HO_6.out) (by decide)) (fun k_ hk => ⟨hk.1.1, hk.2⟩))).1 k_ hk_.symm) ?aF ?aO ?aB ?aS ?aL ?_; (case aP => exact Kd.M_row (Kd.R_mono (Kd.R_tight rfl (Kd.R_mono (ok' := fun k_ => ((fun k_ => (w.heap.size ≤ k_))) k_ ∧ some k_ ≠ (u6 : Value).ownBlock) (Kd.R_apart' (HO460.out) (Kd.S_typed HO_6.out) (by decide)) (fun k_ hk => ⟨hk.1.1, hk.2⟩))) (fun _ h_ => h_))); (case aB => exact zb); (case aF => exact (fun k_ hk => (Nat.le_trans (below_size zb) hk))); (case aO => exact (by (with_reducible repeat (first | apply Kd.S_alloc | apply Kd.S_drewN | apply Kd.S_drew)); exact Kd.S_mono HO_6.out (fun k_ hk => ⟨hk.1, fun e_ => hk.2 e_⟩))); (case aS => exact (below_size zb)); (case aL => have := LMc9.out; omega); intro v463 w13 ho hb hg hat; rw [← Ny462.out] at ho; have n0_ := aM (hb); have n1_ := aM (ho); clear HB HO_6 HO460; have HB := n0_; have HO464 := n1_; clear n0_ n1_; clear ho hb hg hat))
   go_roundg k1
   case measure => have := HK1.out; omega
   case rel => exact ⟨(y462), (wrap64 (x10_1 + 1)), zr, H', ⟨by have := HK1.out; omega⟩, ⟨mS_ HO464.out⟩, ⟨zb⟩⟩
def impl_ownLeast__impl_hexForm.l0 : Nat → List (List (S43)) → List (List (S43)) → Int → Int → Option ((List (List (S43))))
 | 0, _, _, _, _ => none
 | k + 1, x5, x11, x12, x13 => if x13 < x12 then (if 0 ≤ x13 then (if x13 < (x11.length : Int) then ((impl_leastForm__impl_hexForm.f k (rd_L2 x11 x13)).bind fun bt469 => (if bt469.2 = true then ((impl_Cell_33.f k bt469.1 (rd_L2 x11 x13)).bind fun t473 => (if t473 = true then (if x5.length < 5864062014805 then (impl_ownLeast__impl_hexForm.l0 k (x5 ++ [rd_L2 x11 x13]) x11 x12 (wrap64 (x13 + 1))) else (none)) else (impl_ownLeast__impl_hexForm.l0 k x5 x11 x12 (wrap64 (x13 + 1))))) else (impl_ownLeast__impl_hexForm.l0 k x5 x11 x12 (wrap64 (x13 + 1))))) else (none)) else (none)) else (some x5)
def impl_ownLeast__impl_hexForm.f (k : Nat) (l0 : List (List (S43)))  : Option ((List (List (S43)))) := (impl_ownLeast__impl_hexForm.l0 k (([] : List (List (S43)))) l0 (l0.length : Int) 0).bind fun r_ => if apartB r_ = true then some r_ else none
theorem impl_ownLeast__impl_hexForm.calls (k : Nat) (P0_ : Nat → Prop) (A0 : Option Addr) (c0 : Nat) (l0 : List (List (S43)))  (r : List (List (S43))) (w : World) {b_ : Nat} (hb_ : b_ ≤ w.heap.size) (hs0 : Kd.V (own b_ 43 k43) 36 w w.heap.size (fun k_ => P0_ k_) (.slice A0 l0.length c0) l0) (h : impl_ownLeast__impl_hexForm.f k l0 = some r) :
  Calls Try.prog 16 #[.slice A0 l0.length c0, .func (.func 18) #[] #[]] w fun e w' => ∃ v0_ : Value, e = .returned (v0_) ∧ Kd.S (Kd.slice 43 k43) 36 w' b_ (fun k_ => (P0_ k_ ∨ w.heap.size ≤ k_)) v0_ r ∧ Below w.heap.size w w' := by
 have HO0 := aM (show Kd.V (own b_ 43 k43) 36 w w.heap.size (fun k_ => (P0_ k_ ∨ w.heap.size ≤ k_)) (.slice A0 l0.length c0) l0 from Kd.V_mono hs0 (fun k_ hk => .inl hk))
 have HB := aM (Below.refl w.heap.size w)
 obtain ⟨H, HAP⟩ : (impl_ownLeast__impl_hexForm.l0 k (([] : List (List (S43)))) l0 (l0.length : Int) 0) = some r ∧ apartB r = true := by
  unfold impl_ownLeast__impl_hexForm.f at h
  obtain ⟨r_, h1_, h2_⟩ := Option.bind_eq_some_iff.mp h
  by_cases h3_ : apartB r_ = true
  rotate_left
  ·rw [if_neg h3_] at h2_
   cases h2_
  rw [if_pos h3_] at h2_
  obtain rfl := Option.some.inj h2_
  exact ⟨h1_, h3_⟩
 clear h
 obtain ⟨y465, hy465⟩ : ∃ y_ : List (List (S43)), y_ = (([] : List (List (S43)))) := ⟨_, rfl⟩
 replace H : (impl_ownLeast__impl_hexForm.l0 k y465 l0 (l0.length : Int) 0) = some r := zy H hy465
 have Ny465 := aM hy465
 clear hy465
 have H' := aM H
 clear H
 go_enter Try.func16, Try.ntmps16
 go_wp2_with (first | ((with_reducible refine gate_dst (N := 10) rfl ?_); refine Kd.N_lit (own b_ 43 k43) _ 36 ?hg (N' := 10) ?hd (xs := ([] : List (List (S43)))) (inner := []) (ok := (fun k_ => (P0_ k_ ∨ w.heap.size ≤ k_))) (okp := (fun k_ => (P0_ k_ ∨ w.heap.size ≤ k_))) ?hr ?hp (fun _ hk => hk) ((show ∀ k_, w.heap.size ≤ k_ → (fun k_ => (P0_ k_ ∨ w.heap.size ≤ k_)) k_ from fun k_ hk => (.inr (Nat.le_trans (below_size zb) hk))) _ (Nat.le_refl _)) (Below.refl _ _) (Nat.le_refl _) (by simp) ?_; (case hd => rfl); (case hg => rfl); (case hr => first | (go_simp; done) | (go_simp; rfl)); (case hp => exact (Reps.none _ _)); intro v466 w3 ho4 hb hg_ hnew_; clear hg_ hnew_; (first | rw [← Ny465.out] at ho4 | (simp only [Int.reduceToNat] at ho4; rw [← Ny465.out] at ho4)); have n0_ := aM (Kd.V_elder' (mV_ HO0.out) (by first | exact Kd.N_base ho4 | exact Kd.S_base ho4 | exact Kd.R_base ho4) hb); have n1_ := aM (Kd.N_lower ho4 (below_size zb)); have n2_ := aM (below_step zb hb); clear HO0 HB; have HO0 := n0_; have HO467 := n1_; have HB := n2_; clear n0_ n1_ n2_; clear hb ho4))
 go_loopg [5, 13] k (fun kq v5 v13 w' => ∃ (x5_1 : List (List (S43))) (x13_1 : Int), v13 = .int .i64 x13_1 ∧ Aside0 (impl_ownLeast__impl_hexForm.l0 kq x5_1 l0 (l0.length : Int) x13_1 = some r) ∧ Aside0 (kq ≤ k) ∧ Aside0 (Kd.N (own b_ 43 k43) 36 w' w.heap.size (fun k_ => (P0_ k_ ∨ w.heap.size ≤ k_)) v5 x5_1) ∧ Aside0 (Kd.V (own b_ 43 k43) 36 w' w.heap.size (fun k_ => (P0_ k_ ∨ w.heap.size ≤ k_) ∧ some k_ ≠ (v5 : Value).ownBlock) (.slice A0 l0.length c0) l0) ∧ Aside0 (Below w.heap.size w w'))
 case atStart => exact ⟨(y465), (0), zr, H', ⟨Nat.le_refl _⟩, ⟨mN_ HO467.out⟩, ⟨mV_ HO0.out⟩, ⟨zb⟩⟩
 case round =>
  clear H'
  try clear p2
  obtain ⟨x5_1, x13_1, rfl, HA, HK1, HO_5, HO_11, HB⟩ := hrel
  cases gk with
  | zero => exact absurd HA.out (by simp [impl_ownLeast__impl_hexForm.l0])
  | succ k1 =>
   have H := HA.out
   clear HA
   simp only [impl_ownLeast__impl_hexForm.l0] at H
   by_cases c5 : x13_1 < (l0.length : Int)
   rotate_left
   ·rw [if_neg c5] at H
    have c5b0 : decide (x13_1 < (l0.length : Int)) = false := decide_eq_false c5
    clear c5
    obtain rfl := Option.some.inj H
    go_wp2
    go_ret
    exact ⟨_, zw, S_of_NB (mN_ HO_5.out) hb_ HAP, zb⟩
   rw [if_pos c5] at H
   have c5b0 : decide (x13_1 < (l0.length : Int)) = true := decide_eq_true c5
   clear c5
   by_cases c6 : 0 ≤ x13_1
   rotate_left
   ·rw [if_neg c6] at H
    exact absurd H (by simp)
   rw [if_pos c6] at H
   have c6b0 : decide (0 ≤ x13_1) = true := decide_eq_true c6
   clear c6
   by_cases c7 : x13_1 < (l0.length : Int)
   rotate_left
   ·rw [if_neg c7] at H
    exact absurd H (by simp)
   rw [if_pos c7] at H
   have c7b0 : decide (x13_1 < (l0.length : Int)) = true := decide_eq_true c7
   clear c7
   replace H := Option.bind_eq_some_iff.mp H
   obtain ⟨⟨t469, t470⟩, A80, H⟩ := H
   replace H : (if t470 = true then ((impl_Cell_33.f k1 t469 (rd_L2 l0 x13_1)).bind fun t473 => (if t473 = true then (if x5_1.length < 5864062014805 then (impl_ownLeast__impl_hexForm.l0 k1 (x5_1 ++ [rd_L2 l0 x13_1]) l0 (l0.length : Int) (wrap64 (x13_1 + 1))) else (none)) else (impl_ownLeast__impl_hexForm.l0 k1 x5_1 l0 (l0.length : Int) (wrap64 (x13_1 + 1))))) else (impl_ownLeast__impl_hexForm.l0 k1 x5_1 l0 (l0.length : Int) (wrap64 (x13_1 + 1)))) = some r := H
   have A8 := aM A80
   clear A80
   by_cases c9 : t470 = true
   rotate_left
   ·replace c9 := Bool.eq_false_iff.mpr c9
    subst c9
    have H1 : (impl_ownLeast__impl_hexForm.l0 k1 x5_1 l0 (l0.length : Int) (wrap64 (x13_1 + 1))) = some r := by rw [if_neg (show ¬ (false = true) by decide)] at H; exact H
    clear H
    have H := H1
    clear H1
    have H' := aM H
    clear H
    have p468 : 0 ≤ (x13_1 : Int) := of_decide_eq_true za
    have q468 : x13_1 < (l0.length : Int) := of_decide_eq_true za
    obtain ⟨ad468, A468_0, c468_0, e468, hx468_0, hl468_0, hi468_0⟩ := at_L2 (Kd.V_reads' (VO_slice HO_11.out)).2.2 x13_1 p468 q468
    cases e468
    obtain ⟨ce468, hce468, hMe468, hcc468⟩ := Kd.V_get HO_11.out [] x13_1 p468 (by first | exact q468 | exact of_decide_eq_true za | (have e_ := (Kd.V_reads' HO_11.out).1; omega))
    obtain ⟨ua468_0, uc468_0, rfl, ul468_0, ge468_0⟩ := Kd.FK_slice_open (FKO_slice hMe468)
    have hv468_0 := hcc468 0 _ rfl
    rw [Nat.add_zero, show ((own b_ 43 k43)).sz = 1 from rfl, Nat.mul_one] at hv468_0
    replace hv468_0 := Option.some.inj (hv468_0.symm.trans hx468_0)
    injection hv468_0 with hva_ hvn_ hvc_
    rw [hva_] at ge468_0
    rw [hvc_] at ul468_0
    rw [hva_, hvc_] at hMe468
    have HL468_0 := aM (show OV b_ 43 k43 _ _ _ (rd_L2 l0 x13_1) from hMe468)
    clear hva_ hvn_ hvc_ ge468_0 ul468_0
    clear hcc468 hce468
    have HR468_0 := aM hi468_0
    have HC468_0 := aM hl468_0
    clear hi468_0 hl468_0
    replace p468 := eq_true p468
    replace q468 := eq_true q468
    go_wp2_with (first | ((with_reducible refine gate_callee (f := 32) rfl ?_); refine goesL_ (some 20) rfl rfl Try.func32 (by kernel_rfl) rfl #[.slice A468_0 (rd_L2 l0 x13_1).length c468_0, .func (.func 18) #[] #[]] rfl zm ?_; (with_reducible refine (impl_leastForm__impl_hexForm.calls k1 _ _ (rd_L2 l0 x13_1)  t469 false _ ?side1 ?side2 A8.out).mono ?_); (case side1 => repeat (first | exact (mQ_ HR468_0.out) | (with_reducible refine Kd.C_alloc ?_ _) | (with_reducible refine Kd.C_drewN ?_ _) | (with_reducible refine Kd.C_drew ?_))); (case side2 => exact HC468_0.out); rintro e w18 ⟨v471, rfl, ho0, hb⟩; refine ⟨_, rfl, ?_⟩; have n0_ := aM (Kd.N_elder' (mN_ HO_5.out) (Kd.R_base ho0) hb); have n1_ := aM (Kd.V_elder' (mV_ HO_11.out) (Kd.R_base ho0) hb); have n2_ := aM (OV_elder' (by (with_reducible repeat (first | apply OV_alloc | apply OV_drewN | apply OV_drew)); exact HL468_0.out) (Kd.R_base ho0) hb); have n3_ := aM (Kd.R_lower (Kd.R_newM (M := fun k_ => (w.heap.size ≤ k_)) ho0 (below_size zb) (fun k_ h_ => h_)) (below_size zb)); have n4_ := aM (Kd.C_below (mQ_ HR468_0.out) hb); have n5_ := aM (below_step zb hb); clear HO_5 HO_11 HL468_0 HR468_0 HB; have HO_5 := n0_; have HO_11 := n1_; have HL468_0 := n2_; have HO472 := n3_; have HR468_0 := n4_; have HB := n5_; clear n0_ n1_ n2_ n3_ n4_ n5_; (try clear hb); (try clear hb2); (try clear hk); (try clear hi); (try clear ho0)))
    go_roundg k1
    case measure => have := HK1.out; omega
    case rel => exact ⟨(x5_1), (wrap64 (x13_1 + 1)), zr, H', ⟨by have := HK1.out; omega⟩, ⟨zd5 HO_5.out⟩, ⟨zd2 HO_11.out⟩, ⟨zb⟩⟩
   subst c9
   have H1 : ((impl_Cell_33.f k1 t469 (rd_L2 l0 x13_1)).bind fun t473 => (if t473 = true then (if x5_1.length < 5864062014805 then (impl_ownLeast__impl_hexForm.l0 k1 (x5_1 ++ [rd_L2 l0 x13_1]) l0 (l0.length : Int) (wrap64 (x13_1 + 1))) else (none)) else (impl_ownLeast__impl_hexForm.l0 k1 x5_1 l0 (l0.length : Int) (wrap64 (x13_1 + 1))))) = some r := by rw [if_pos rfl] at H; exact H
   clear H
   have H := H1
   clear H1
   replace H := Option.bind_eq_some_iff.mp H
   obtain ⟨t473, A100, H⟩ := H
   replace H : (if t473 = true then (if x5_1.length < 5864062014805 then (impl_ownLeast__impl_hexForm.l0 k1 (x5_1 ++ [rd_L2 l0 x13_1]) l0 (l0.length : Int) (wrap64 (x13_1 + 1))) else (none)) else (impl_ownLeast__impl_hexForm.l0 k1 x5_1 l0 (l0.length : Int) (wrap64 (x13_1 + 1)))) = some r := H
   have A10 := aM A100
   clear A100
   by_cases c11 : t473 = true
   rotate_left
   ·replace c11 := Bool.eq_false_iff.mpr c11
    subst c11
    have H1 : (impl_ownLeast__impl_hexForm.l0 k1 x5_1 l0 (l0.length : Int) (wrap64 (x13_1 + 1))) = some r := by rw [if_neg (show ¬ (false = true) by decide)] at H; exact H
    clear H
    have H := H1
    clear H1
    have H' := aM H
    clear H
    have p468 : 0 ≤ (x13_1 : Int) := of_decide_eq_true za
    have q468 : x13_1 < (l0.length : Int) := of_decide_eq_true za
    obtain ⟨ad468, A468_0, c468_0, e468, hx468_0, hl468_0, hi468_0⟩ := at_L2 (Kd.V_reads' (VO_slice HO_11.out)).2.2 x13_1 p468 q468
    cases e468
    obtain ⟨ce468, hce468, hMe468, hcc468⟩ := Kd.V_get HO_11.out [] x13_1 p468 (by first | exact q468 | exact of_decide_eq_true za | (have e_ := (Kd.V_reads' HO_11.out).1; omega))
    obtain ⟨ua468_0, uc468_0, rfl, ul468_0, ge468_0⟩ := Kd.FK_slice_open (FKO_slice hMe468)
    have hv468_0 := hcc468 0 _ rfl
    rw [Nat.add_zero, show ((own b_ 43 k43)).sz = 1 from rfl, Nat.mul_one] at hv468_0
    replace hv468_0 := Option.some.inj (hv468_0.symm.trans hx468_0)
    injection hv468_0 with hva_ hvn_ hvc_
    rw [hva_] at ge468_0
    rw [hvc_] at ul468_0
    rw [hva_, hvc_] at hMe468
    have HL468_0 := aM (show OV b_ 43 k43 _ _ _ (rd_L2 l0 x13_1) from hMe468)
    clear hva_ hvn_ hvc_ ge468_0 ul468_0
    clear hcc468 hce468
    have HR468_0 := aM hi468_0
    have HC468_0 := aM hl468_0
    clear hi468_0 hl468_0
    replace p468 := eq_true p468
    replace q468 := eq_true q468
    go_wp2_with (first | ((with_reducible refine gate_callee (f := 32) rfl ?_); refine goesL_ (some 20) rfl rfl Try.func32 (by kernel_rfl) rfl #[.slice A468_0 (rd_L2 l0 x13_1).length c468_0, .func (.func 18) #[] #[]] rfl zm ?_; (with_reducible refine (impl_leastForm__impl_hexForm.calls k1 _ _ (rd_L2 l0 x13_1)  t469 true _ ?side1 ?side2 A8.out).mono ?_); (case side1 => repeat (first | exact (mQ_ HR468_0.out) | (with_reducible refine Kd.C_alloc ?_ _) | (with_reducible refine Kd.C_drewN ?_ _) | (with_reducible refine Kd.C_drew ?_))); (case side2 => exact HC468_0.out); rintro e w16 ⟨v471, rfl, ho0, hb⟩; refine ⟨_, rfl, ?_⟩; have n0_ := aM (Kd.N_elder' (mN_ HO_5.out) (Kd.R_base ho0) hb); have n1_ := aM (Kd.V_elder' (mV_ HO_11.out) (Kd.R_base ho0) hb); have n2_ := aM (OV_elder' (by (with_reducible repeat (first | apply OV_alloc | apply OV_drewN | apply OV_drew)); exact HL468_0.out) (Kd.R_base ho0) hb); have n3_ := aM (Kd.R_lower (Kd.R_newM (M := fun k_ => (w.heap.size ≤ k_)) ho0 (below_size zb) (fun k_ h_ => h_)) (below_size zb)); have n4_ := aM (Kd.C_below (mQ_ HR468_0.out) hb); have n5_ := aM (below_step zb hb); clear HO_5 HO_11 HL468_0 HR468_0 HB; have HO_5 := n0_; have HO_11 := n1_; have HL468_0 := n2_; have HO472 := n3_; have HR468_0 := n4_; have HB := n5_; clear n0_ n1_ n2_ n3_ n4_ n5_; (try clear hb); (try clear hb2); (try clear hk); (try clear hi); (try clear ho0); obtain ⟨Ao17, co17, eo17⟩ := Kd.R_slice HO472.out; subst eo17) | (go_at_call 33; (with_reducible refine (impl_Cell_33.calls k1 _ _ t469 _ _ (rd_L2 l0 x13_1) false _ ?side1 ?side2 ?side3 ?side4 A10.out).mono ?_); (case side1 => exact zc HO472.out); (case side2 => exact (Kd.R_reads' HO472.out).2.1); (case side3 => repeat (first | exact (mQ_ HR468_0.out) | (with_reducible refine Kd.C_alloc ?_ _) | (with_reducible refine Kd.C_drewN ?_ _) | (with_reducible refine Kd.C_drew ?_))); (case side4 => exact HC468_0.out); rintro e w' ⟨rfl, ⟨nd, rfl⟩⟩))
    go_roundg k1
    case measure => have := HK1.out; omega
    case rel => exact ⟨(x5_1), (wrap64 (x13_1 + 1)), zr, H', ⟨by have := HK1.out; omega⟩, ⟨zd5 HO_5.out⟩, ⟨zd2 HO_11.out⟩, ⟨zb⟩⟩
   subst c11
   have H1 : (if x5_1.length < 5864062014805 then (impl_ownLeast__impl_hexForm.l0 k1 (x5_1 ++ [rd_L2 l0 x13_1]) l0 (l0.length : Int) (wrap64 (x13_1 + 1))) else (none)) = some r := by rw [if_pos rfl] at H; exact H
   clear H
   have H := H1
   clear H1
   by_cases c12 : x5_1.length < 5864062014805
   rotate_left
   ·rw [if_neg c12] at H
    exact absurd H (by simp)
   rw [if_pos c12] at H
   have LMc12 := aM c12
   clear c12
   obtain ⟨y474, hy474⟩ : ∃ y_ : List (List (S43)), y_ = (x5_1 ++ [rd_L2 l0 x13_1]) := ⟨_, rfl⟩
   replace H : (impl_ownLeast__impl_hexForm.l0 k1 y474 l0 (l0.length : Int) (wrap64 (x13_1 + 1))) = some r := zy H hy474
   have Ny474 := aM hy474
   clear hy474
   have H' := aM H
   clear H
   have p468 : 0 ≤ (x13_1 : Int) := of_decide_eq_true za
   have q468 : x13_1 < (l0.length : Int) := of_decide_eq_true za
   obtain ⟨ad468, A468_0, c468_0, e468, hx468_0, hl468_0, hi468_0⟩ := at_L2 (Kd.V_reads' (VO_slice HO_11.out)).2.2 x13_1 p468 q468
   cases e468
   obtain ⟨ce468, hce468, hMe468, hcc468⟩ := Kd.V_get HO_11.out [] x13_1 p468 (by first | exact q468 | exact of_decide_eq_true za | (have e_ := (Kd.V_reads' HO_11.out).1; omega))
   obtain ⟨ua468_0, uc468_0, rfl, ul468_0, ge468_0⟩ := Kd.FK_slice_open (FKO_slice hMe468)
   have hv468_0 := hcc468 0 _ rfl
   rw [Nat.add_zero, show ((own b_ 43 k43)).sz = 1 from rfl, Nat.mul_one] at hv468_0
   replace hv468_0 := Option.some.inj (hv468_0.symm.trans hx468_0)
   injection hv468_0 with hva_ hvn_ hvc_
   rw [hva_] at ge468_0
   rw [hvc_] at ul468_0
   rw [hva_, hvc_] at hMe468
   have HL468_0 := aM (show OV b_ 43 k43 _ _ _ (rd_L2 l0 x13_1) from hMe468)
   clear hva_ hvn_ hvc_ ge468_0 ul468_0
   clear hcc468 hce468
   have HR468_0 := aM hi468_0
   have HC468_0 := aM hl468_0
   clear hi468_0 hl468_0
   replace p468 := eq_true p468
   replace q468 := eq_true q468
   go_wp2_with (first | ((with_reducible refine gate_callee (f := 32) rfl ?_); refine goesL_ (some 20) rfl rfl Try.func32 (by kernel_rfl) rfl #[.slice A468_0 (rd_L2 l0 x13_1).length c468_0, .func (.func 18) #[] #[]] rfl zm ?_; (with_reducible refine (impl_leastForm__impl_hexForm.calls k1 _ _ (rd_L2 l0 x13_1)  t469 true _ ?side1 ?side2 A8.out).mono ?_); (case side1 => repeat (first | exact (mQ_ HR468_0.out) | (with_reducible refine Kd.C_alloc ?_ _) | (with_reducible refine Kd.C_drewN ?_ _) | (with_reducible refine Kd.C_drew ?_))); (case side2 => exact HC468_0.out); rintro e w13 ⟨v471, rfl, ho0, hb⟩; refine ⟨_, rfl, ?_⟩; have n0_ := aM (Kd.N_elder' (mN_ HO_5.out) (Kd.R_base ho0) hb); have n1_ := aM (Kd.V_elder' (mV_ HO_11.out) (Kd.R_base ho0) hb); have n2_ := aM (OV_elder' (by (with_reducible repeat (first | apply OV_alloc | apply OV_drewN | apply OV_drew)); exact HL468_0.out) (Kd.R_base ho0) hb); have n3_ := aM (Kd.R_lower (Kd.R_newM (M := fun k_ => (w.heap.size ≤ k_)) ho0 (below_size zb) (fun k_ h_ => h_)) (below_size zb)); have n4_ := aM (Kd.C_below (mQ_ HR468_0.out) hb); have n5_ := aM (below_step zb hb); clear HO_5 HO_11 HL468_0 HR468_0 HB; have HO_5 := n0_; have HO_11 := n1_; have HL468_0 := n2_; have HO472 := n3_; have HR468_0 := n4_; have HB := n5_; clear n0_ n1_ n2_ n3_ n4_ n5_; (try clear hb); (try clear hb2); (try clear hk); (try clear hi); (try clear ho0); obtain ⟨Ao14, co14, eo14⟩ := Kd.R_slice HO472.out; subst eo14) | (go_at_call 33; (with_reducible refine (impl_Cell_33.calls k1 _ _ t469 _ _ (rd_L2 l0 x13_1) true _ ?side1 ?side2 ?side3 ?side4 A10.out).mono ?_); (case side1 => exact zc HO472.out); (case side2 => exact (Kd.R_reads' HO472.out).2.1); (case side3 => repeat (first | exact (mQ_ HR468_0.out) | (with_reducible refine Kd.C_alloc ?_ _) | (with_reducible refine Kd.C_drewN ?_ _) | (with_reducible refine Kd.C_drew ?_))); (case side4 => exact HC468_0.out); rintro e w' ⟨rfl, ⟨nd, rfl⟩⟩) | ((with_reducible refine gate_builtin (b := .append) (xs := #[.tmp 29, .tmp 31]) rfl ?_); at_builtin; refine Kd.N_append (own b_ 43 k43) (w0 := w) w.heap.size rfl (.tmp 29) (.tmp 31) 22 36 (.slice none 0 0) 24 rfl Try.underlying22 info36 rfl (Nat.lt_succ_self 0) (by omega) u5 x5_1 (rd_L2 l0 x13_1) [.slice A468_0 (rd_L2 l0 x13_1).length c468_0] (fun k_ => (P0_ k_ ∨ w.heap.size ≤ k_) ∧ some k_ ≠ (.slice Ao14 t469.length co14 : Value).ownBlock) (fun k_ => ((fun k_ => (P0_ k_ ∨ w.heap.size ≤ k_) ∧ some k_ ≠ (.slice Ao14 t469.length co14 : Value).ownBlock)) k_ ∧ some k_ ≠ (u5 : Value).ownBlock) rfl rfl ?aP (fun _ hk => hk) ?aF ?aO ?aB ?aS ?aL ?_; (case aP => first | exact OV_mono (OV_drewN HL468_0.out _) (fun k_ hk => ⟨⟨hk.1.1, hk.2⟩, hk.1.2⟩) | exact OV_mono HL468_0.out (fun k_ hk => ⟨⟨hk.1.1, hk.2⟩, hk.1.2⟩) | exact OV_mono (OV_alloc (OV_drewN HL468_0.out _) _) (fun k_ hk => ⟨⟨hk.1.1, hk.2⟩, hk.1.2⟩)); (case aB => exact zb); (case aF => exact (fun k_ hk => ⟨(.inr (Nat.le_trans (below_size zb) hk)), Kd.fresh' (Kd.R_lt (mR_ HO472.out)) k_ hk⟩)); (case aO => exact (mN_ HO_5.out)); (case aS => exact (below_size zb)); (case aL => have := LMc12.out; omega); intro v475 w15 ho hb hg hat; rw [← Ny474.out] at ho; have n0_ := aM (Kd.V_afterv (ok := (fun k_ => (P0_ k_ ∨ w.heap.size ≤ k_) ∧ some k_ ≠ (.slice Ao14 t469.length co14 : Value).ownBlock)) (zd3 HO_11.out) hg hat); have n1_ := aM (OV_after (ok := (fun k_ => (P0_ k_ ∨ w.heap.size ≤ k_) ∧ some k_ ≠ (.slice Ao14 t469.length co14 : Value).ownBlock)) (by (with_reducible repeat (first | apply OV_alloc | apply OV_drewN | apply OV_drew)); exact OV_mono HL468_0.out (fun _ hk => ⟨⟨hk.1.1, hk.2⟩, hk.1.2⟩)) hg hat); have n2_ := aM (Kd.R_over' (mR_ HO472.out) (Kd.N_typed (mN_ HO_5.out)) (by decide) hg); have n3_ := aM (hb); have n4_ := aM (ho); clear HO_11 HL468_0 HO472 HB HO_5; have HO_11 := n0_; have HL468_0 := n1_; have HO472 := n2_; have HB := n3_; have HO476 := n4_; clear n0_ n1_ n2_ n3_ n4_; clear ho hb hg hat))
   go_roundg k1
   case measure => have := HK1.out; omega
   case rel => exact ⟨(y474), (wrap64 (x13_1 + 1)), zr, H', ⟨by have := HK1.out; omega⟩, ⟨zd5 HO476.out⟩, ⟨zd4 HO_11.out⟩, ⟨zb⟩⟩
def impl_HexShapes.f (k : Nat) (a0 : Int) : Option ((List (List (S43))) × Int) := (impl_within.f a0 1 5).bind fun t477 => (if t477 = true then ((impl_allHexes.f k a0).bind fun t478 => ((impl_ownLeast__impl_hexForm.f k t478).bind fun t481 => (some (t481, 0)))) else (some (([] : List (List (S43))), 2)))
theorem impl_HexShapes.calls (k : Nat) (a0 : Int) (r1 : List (List (S43))) (r2 : Int) (w : World) (h : impl_HexShapes.f k a0 = some (r1, r2)) :
  Calls Try.prog 6 #[.int .i64 a0] w fun e w' => ∃ v0_ : Value, e = .returned (.tuple #[v0_, .int .i64 r2]) ∧ Kd.S (Kd.slice 43 k43) 36 w' w.heap.size (fun _ => True) v0_ r1 ∧ Below w.heap.size w w' := by
 have HB := aM (Below.refl w.heap.size w)
 have H : ((impl_within.f a0 1 5).bind fun t477 => (if t477 = true then ((impl_allHexes.f k a0).bind fun t478 => ((impl_ownLeast__impl_hexForm.f k t478).bind fun t481 => (some (t481, 0)))) else (some (([] : List (List (S43))), 2)))) = some (r1, r2) := h
 clear h
 replace H := Option.bind_eq_some_iff.mp H
 obtain ⟨t477, A20, H⟩ := H
 replace H : (if t477 = true then ((impl_allHexes.f k a0).bind fun t478 => ((impl_ownLeast__impl_hexForm.f k t478).bind fun t481 => (some (t481, 0)))) else (some (([] : List (List (S43))), 2))) = some (r1, r2) := H
 have A2 := aM A20
 clear A20
 by_cases c3 : t477 = true
 rotate_left
 ·replace c3 := Bool.eq_false_iff.mpr c3
  subst c3
  have H1 : (some (([] : List (List (S43))), 2)) = some (r1, r2) := by rw [if_neg (show ¬ (false = true) by decide)] at H; exact H
  clear H
  have H := H1
  clear H1
  simp only [Option.some.injEq, Prod.mk.injEq] at H
  obtain ⟨rfl, rfl⟩ := H
  go_enter Try.func6, Try.ntmps6
  go_wp2_with (first | ((with_reducible refine gate_callee (f := 15) rfl ?_); refine goesL_ (some 5) rfl rfl Try.func15 (by kernel_rfl) rfl #[.int .i64 a0, .int .i64 1, .int .i64 5] rfl zm ?_; (with_reducible refine (impl_within.calls a0 1 5 false _ A2.out).mono ?_); rintro e w' ⟨rfl, ⟨nd, rfl⟩⟩; refine ⟨_, rfl, ?_⟩))
  go_ret2
  exact ⟨_, zw, by first | exact Kd.S_nil _ _ _ _ _ | exact Kd.N_nil _ _ _ _ _ | exact Kd.V_nil _ _ _ _ _ | exact Kd.Q_nil _ _ _ _ _ | exact Kd.R_nil _ _ _ _ _, zb⟩
 subst c3
 have H1 : ((impl_allHexes.f k a0).bind fun t478 => ((impl_ownLeast__impl_hexForm.f k t478).bind fun t481 => (some (t481, 0)))) = some (r1, r2) := by rw [if_pos rfl] at H; exact H
 clear H
 have H := H1
 clear H1
 replace H := Option.bind_eq_some_iff.mp H
 obtain ⟨t478, A40, H⟩ := H
 replace H : ((impl_ownLeast__impl_hexForm.f k t478).bind fun t481 => (some (t481, 0))) = some (r1, r2) := H
 have A4 := aM A40
 clear A40
 replace H := Option.bind_eq_some_iff.mp H
 obtain ⟨t481, A50, H⟩ := H
 replace H : (some (t481, 0)) = some (r1, r2) := H
 have A5 := aM A50
 clear A50
 simp only [Option.some.injEq, Prod.mk.injEq] at H
 obtain ⟨rfl, rfl⟩ := H
 go_enter Try.func6, Try.ntmps6
 go_wp2_with (first | ((with_reducible refine gate_callee (f := 15) rfl ?_); refine goesL_ (some 5) rfl rfl Try.func15 (by kernel_rfl) rfl #[.int .i64 a0, .int .i64 1, .int .i64 5] rfl zm ?_; (with_reducible refine (impl_within.calls a0 1 5 true _ A2.out).mono ?_); rintro e w' ⟨rfl, ⟨nd, rfl⟩⟩; refine ⟨_, rfl, ?_⟩) | ((with_reducible refine gate_callee (f := 17) rfl ?_); refine goesL_ (some 8) rfl rfl Try.func17 (by kernel_rfl) rfl #[.int .i64 a0] rfl zm ?_; (with_reducible refine (impl_allHexes.calls k a0 t478 _ A4.out).mono ?_); rintro e w6 ⟨v479, rfl, ho0, hb⟩; refine ⟨_, rfl, ?_⟩; have n0_ := aM (VO_low (Kd.V_mono (ok' := fun k_ => True) ho0 (fun k_ hk_ => trivial)) (below_size zb)); have n1_ := aM (below_step zb hb); clear HB; have HO480 := n0_; have HB := n1_; clear n0_ n1_; (try clear hb); (try clear hb2); (try clear hk); (try clear hi); (try clear ho0); obtain ⟨Ao7, co7, eo7⟩ := Kd.V_slice HO480.out; subst eo7) | ((with_reducible refine gate_callee (f := 16) rfl ?_); refine goesL_ (some 9) rfl rfl Try.func16 (by kernel_rfl) rfl #[.slice Ao7 t478.length co7, .func (.func 18) #[] #[]] rfl zm ?_; (with_reducible refine (impl_ownLeast__impl_hexForm.calls k (fun k_ => True) _ _ t478  t481 _ (b_ := w.heap.size) (below_size zb) ?side1 A5.out).mono ?_); (case side1 => exact HO480.out); rintro e w8 ⟨v482, rfl, ho0, hb⟩; refine ⟨_, rfl, ?_⟩; have n0_ := aM (Kd.V_below (mV_ HO480.out) hb); have n1_ := aM (Kd.S_mono (ok' := fun k_ => True) ho0 (fun _ hk_ => trivial)); have n2_ := aM (below_step zb hb); clear HO480 HB; have HO480 := n0_; have HO483 := n1_; have HB := n2_; clear n0_ n1_ n2_; (try clear hb); (try clear hb2); (try clear hk); (try clear hi); (try clear ho0)))
 go_ret2
 exact ⟨_, zw, mS_ HO483.out, zb⟩
mutual
def laws_FnExactHexShapes.j0 : Nat → Int → List (List (S43)) → Int → List (List (S43)) → Bool → Option (Bool)
 | 0, _, _, _, _, _ => none
 | k + 1, x0, x3, x4, x5, x29 => if x29 = true then (some false) else ((laws_markCellSS.f k x5 1).bind fun bt507 => ((laws_heldCellSS.f k bt507.2 1).bind fun t509 => (if t509 < 0 then (some false) else (if t509 = bt507.1 then ((impl_HexShapes.f k x0).bind fun bt510 => ((laws_eqCellSS.f k bt510.1 x3).bind fun t514 => (if t514 = true then (laws_FnExactHexShapes.j1 k bt507.2 bt507.1 (bt510.2 != x4)) else (laws_FnExactHexShapes.j1 k bt507.2 bt507.1 true)))) else (some false)))))
def laws_FnExactHexShapes.j1 : Nat → List (List (S43)) → Int → Bool → Option (Bool)
 | 0, _, _, _ => none
 | k + 1, x5, x7, x54 => if x54 = true then (some false) else ((laws_heldCellSS.f k x5 1).bind fun t515 => (if t515 < 0 then (some false) else (if t515 = x7 then (some true) else (some false))))
end
def laws_FnExactHexShapes.f (k : Nat) (a0 : Int) : Option (Bool) := (spec_HexShapes.f k a0).bind fun bt498 => ((impl_HexShapes.f k a0).bind fun bt502 => ((laws_eqCellSS.f k bt502.1 bt498.1).bind fun t506 => (if t506 = true then (laws_FnExactHexShapes.j0 k a0 bt498.1 bt498.2 bt502.1 (bt502.2 != bt498.2)) else (laws_FnExactHexShapes.j0 k a0 bt498.1 bt498.2 bt502.1 true))))
theorem laws_FnExactHexShapes.calls (k : Nat) (a0 : Int) (r : Bool) (w : World) (h : laws_FnExactHexShapes.f k a0 = some r) :
  Calls Try.prog 3 #[.int .i64 a0] w fun e w' => e = .returned (.bool r) ∧ Below w.heap.size w w' := by
 have HB := aM (Below.refl w.heap.size w)
 have H : ((spec_HexShapes.f k a0).bind fun bt498 => ((impl_HexShapes.f k a0).bind fun bt502 => ((laws_eqCellSS.f k bt502.1 bt498.1).bind fun t506 => (if t506 = true then (laws_FnExactHexShapes.j0 k a0 bt498.1 bt498.2 bt502.1 (bt502.2 != bt498.2)) else (laws_FnExactHexShapes.j0 k a0 bt498.1 bt498.2 bt502.1 true))))) = some r := h
 clear h
 replace H := Option.bind_eq_some_iff.mp H
 obtain ⟨⟨t498, t501⟩, A20, H⟩ := H
 replace H : ((impl_HexShapes.f k a0).bind fun bt502 => ((laws_eqCellSS.f k bt502.1 t498).bind fun t506 => (if t506 = true then (laws_FnExactHexShapes.j0 k a0 t498 t501 bt502.1 (bt502.2 != t501)) else (laws_FnExactHexShapes.j0 k a0 t498 t501 bt502.1 true)))) = some r := H
 have A2 := aM A20
 clear A20
 replace H := Option.bind_eq_some_iff.mp H
 obtain ⟨⟨t502, t503⟩, A30, H⟩ := H
 replace H : ((laws_eqCellSS.f k t502 t498).bind fun t506 => (if t506 = true then (laws_FnExactHexShapes.j0 k a0 t498 t501 t502 (t503 != t501)) else (laws_FnExactHexShapes.j0 k a0 t498 t501 t502 true))) = some r := H
 have A3 := aM A30
 clear A30
 have HC4 := aM H
 clear H
 go_enter Try.func3, Try.ntmps3
 go_upto_region 3 with (first | ((with_reducible refine gate_callee (f := 5) rfl ?_); refine goesL_ (some 13) rfl rfl Try.func5 (by kernel_rfl) rfl #[.int .i64 a0] rfl zm ?_; (with_reducible refine (spec_HexShapes.calls k a0 t498 t501 _ A2.out).mono ?_); rintro e w5 ⟨v499, rfl, ho0, hb⟩; refine ⟨_, rfl, ?_⟩; have n0_ := aM (Kd.V_lower (Kd.V_mono (ok' := fun k_ => True) ho0 (fun k_ hk_ => trivial)) (below_size zb)); have n1_ := aM (below_step zb hb); clear HB; have HO500 := n0_; have HB := n1_; clear n0_ n1_; (try clear hb); (try clear hb2); (try clear hk); (try clear hi); (try clear ho0)) | ((with_reducible refine gate_callee (f := 6) rfl ?_); refine goesL_ (some 18) rfl rfl Try.func6 (by kernel_rfl) rfl #[.int .i64 a0] rfl zm ?_; (with_reducible refine (impl_HexShapes.calls k a0 t502 t503 _ A3.out).mono ?_); rintro e w6 ⟨v504, rfl, ho0, hb⟩; refine ⟨_, rfl, ?_⟩; obtain ⟨NZ_, nV_, nS_⟩ := V_part0_ (mV_ HO500.out) ho0 hb (below_size zb); have n0_ := aM nV_; have n1_ := aM nS_; have n2_ := aM (below_step zb hb); clear HO500 HB; have HO500 := n0_; have HO505 := n1_; have HB := n2_; clear n0_ n1_ n2_ nV_ nS_; (try clear hb); (try clear hb2); (try clear hk); (try clear hi); (try clear ho0)))
 (try simp only [Act.put, xA, xB, xC])
 go_cut [29] (fun v29 wc => ∃ (kq : Nat) (x29_3 : Bool), v29 = .bool x29_3 ∧ Aside0 (laws_FnExactHexShapes.j0 kq a0 t498 t501 t502 x29_3 = some r) ∧ Aside0 (kq ≤ k) ∧ Aside0 (Kd.V (Kd.slice 43 k43) 36 wc w.heap.size (fun k_ => k_ < NZ_) v499 t498) ∧ Aside0 (Kd.S (Kd.slice 43 k43) 36 wc w.heap.size (fun k_ => NZ_ ≤ k_) v504 t502) ∧ Aside0 (Below w.heap.size w wc))
 case first =>
  have H := HC4.out
  clear HC4
  replace H := Option.bind_eq_some_iff.mp H
  obtain ⟨t506, A70, H⟩ := H
  replace H : (if t506 = true then (laws_FnExactHexShapes.j0 k a0 t498 t501 t502 (t503 != t501)) else (laws_FnExactHexShapes.j0 k a0 t498 t501 t502 true)) = some r := H
  have A7 := aM A70
  clear A70
  by_cases c8 : t506 = true
  ·subst c8
   have H1 : (laws_FnExactHexShapes.j0 k a0 t498 t501 t502 (t503 != t501)) = some r := by rw [if_pos rfl] at H; exact H
   clear H
   have H := H1
   clear H1
   have H' := aM H
   clear H
   obtain ⟨Ao9, co9, eo9⟩ := Kd.S_slice HO505.out
   subst eo9
   obtain ⟨Ao10, co10, eo10⟩ := Kd.V_slice HO500.out
   subst eo10
   go_wp2_with (first | ((with_reducible refine gate_callee (f := 7) rfl ?_); refine goesL_ (some 23) rfl rfl Try.func7 (by kernel_rfl) rfl #[.slice Ao9 t502.length co9, .slice Ao10 t498.length co10] rfl zm ?_; (with_reducible refine (laws_eqCellSS.calls k _ _ t502 _ _ t498 true _ ?side1 ?side2 ?side3 ?side4 A7.out).mono ?_); (case side1 => repeat (first | exact (Kd.S_reads' HO505.out).2.2 | (with_reducible refine Kd.C_alloc ?_ _) | (with_reducible refine Kd.C_drewN ?_ _) | (with_reducible refine Kd.C_drew ?_))); (case side2 => exact (Kd.S_reads' HO505.out).2.1); (case side3 => repeat (first | exact (Kd.V_reads' HO500.out).2.2 | (with_reducible refine Kd.C_alloc ?_ _) | (with_reducible refine Kd.C_drewN ?_ _) | (with_reducible refine Kd.C_drew ?_))); (case side4 => exact (Kd.V_reads' HO500.out).2.1); rintro e w11 ⟨rfl, hb⟩; refine ⟨_, rfl, ?_⟩; have n0_ := aM (Kd.V_below (mV_ HO500.out) hb); have n1_ := aM (Kd.S_below (mS_ HO505.out) hb); have n2_ := aM (below_step zb hb); clear HO500 HO505 HB; have HO500 := n0_; have HO505 := n1_; have HB := n2_; clear n0_ n1_ n2_; (try clear hb); (try clear hb2); (try clear hk); (try clear hi)))
   go_meet
   case rel => exact ⟨_, ((t503 != t501)), zr, H', ⟨by first | omega | exact Nat.le_refl _⟩, ⟨mV_ HO500.out⟩, ⟨mS_ HO505.out⟩, ⟨zb⟩⟩
  replace c8 := Bool.eq_false_iff.mpr c8
  subst c8
  have H1 : (laws_FnExactHexShapes.j0 k a0 t498 t501 t502 true) = some r := by rw [if_neg (show ¬ (false = true) by decide)] at H; exact H
  clear H
  have H := H1
  clear H1
  have H' := aM H
  clear H
  obtain ⟨Ao12, co12, eo12⟩ := Kd.S_slice HO505.out
  subst eo12
  obtain ⟨Ao13, co13, eo13⟩ := Kd.V_slice HO500.out
  subst eo13
  go_wp2_with (first | ((with_reducible refine gate_callee (f := 7) rfl ?_); refine goesL_ (some 23) rfl rfl Try.func7 (by kernel_rfl) rfl #[.slice Ao12 t502.length co12, .slice Ao13 t498.length co13] rfl zm ?_; (with_reducible refine (laws_eqCellSS.calls k _ _ t502 _ _ t498 false _ ?side1 ?side2 ?side3 ?side4 A7.out).mono ?_); (case side1 => repeat (first | exact (Kd.S_reads' HO505.out).2.2 | (with_reducible refine Kd.C_alloc ?_ _) | (with_reducible refine Kd.C_drewN ?_ _) | (with_reducible refine Kd.C_drew ?_))); (case side2 => exact (Kd.S_reads' HO505.out).2.1); (case side3 => repeat (first | exact (Kd.V_reads' HO500.out).2.2 | (with_reducible refine Kd.C_alloc ?_ _) | (with_reducible refine Kd.C_drewN ?_ _) | (with_reducible refine Kd.C_drew ?_))); (case side4 => exact (Kd.V_reads' HO500.out).2.1); rintro e w14 ⟨rfl, hb⟩; refine ⟨_, rfl, ?_⟩; have n0_ := aM (Kd.V_below (mV_ HO500.out) hb); have n1_ := aM (Kd.S_below (mS_ HO505.out) hb); have n2_ := aM (below_step zb hb); clear HO500 HO505 HB; have HO500 := n0_; have HO505 := n1_; have HB := n2_; clear n0_ n1_ n2_; (try clear hb); (try clear hb2); (try clear hk); (try clear hi)))
  go_meet
  case rel => exact ⟨_, (true), zr, H', ⟨by first | omega | exact Nat.le_refl _⟩, ⟨mV_ HO500.out⟩, ⟨mS_ HO505.out⟩, ⟨zb⟩⟩
 case rest =>
  clear HC4
  try clear p2
  try clear c3
  try clear c5
  try clear c6
  try clear c7
  try clear c8
  obtain ⟨kq, x29_3, rfl, HA, HJ3, HO_3, HO_5, HB⟩ := hcut
  cases kq with
  | zero => exact absurd HA.out (by simp [laws_FnExactHexShapes.j0])
  | succ kj3 =>
   have H := HA.out
   clear HA
   simp only [laws_FnExactHexShapes.j0] at H
   by_cases c15 : x29_3 = true
   ·subst c15
    have H1 : (some false) = some r := by rw [if_pos rfl] at H; exact H
    clear H
    have H := H1
    clear H1
    obtain rfl := Option.some.inj H
    go_wp2
    go_ret
    exact ⟨zw, zb⟩
   replace c15 := Bool.eq_false_iff.mpr c15
   subst c15
   have H1 : ((laws_markCellSS.f kj3 t502 1).bind fun bt507 => ((laws_heldCellSS.f kj3 bt507.2 1).bind fun t509 => (if t509 < 0 then (some false) else (if t509 = bt507.1 then ((impl_HexShapes.f kj3 a0).bind fun bt510 => ((laws_eqCellSS.f kj3 bt510.1 t498).bind fun t514 => (if t514 = true then (laws_FnExactHexShapes.j1 kj3 bt507.2 bt507.1 (bt510.2 != t501)) else (laws_FnExactHexShapes.j1 kj3 bt507.2 bt507.1 true)))) else (some false))))) = some r := by rw [if_neg (show ¬ (false = true) by decide)] at H; exact H
   clear H
   have H := H1
   clear H1
   replace H := Option.bind_eq_some_iff.mp H
   obtain ⟨⟨t507, t508⟩, A160, H⟩ := H
   replace H : ((laws_heldCellSS.f kj3 t508 1).bind fun t509 => (if t509 < 0 then (some false) else (if t509 = t507 then ((impl_HexShapes.f kj3 a0).bind fun bt510 => ((laws_eqCellSS.f kj3 bt510.1 t498).bind fun t514 => (if t514 = true then (laws_FnExactHexShapes.j1 kj3 t508 t507 (bt510.2 != t501)) else (laws_FnExactHexShapes.j1 kj3 t508 t507 true)))) else (some false)))) = some r := H
   have A16 := aM A160
   clear A160
   replace H := Option.bind_eq_some_iff.mp H
   obtain ⟨t509, A170, H⟩ := H
   replace H : (if t509 < 0 then (some false) else (if t509 = t507 then ((impl_HexShapes.f kj3 a0).bind fun bt510 => ((laws_eqCellSS.f kj3 bt510.1 t498).bind fun t514 => (if t514 = true then (laws_FnExactHexShapes.j1 kj3 t508 t507 (bt510.2 != t501)) else (laws_FnExactHexShapes.j1 kj3 t508 t507 true)))) else (some false))) = some r := H
   have A17 := aM A170
   clear A170
   by_cases c18 : t509 < 0
   ·rw [if_pos c18] at H
    have c18b0 : decide (t509 < 0) = true := decide_eq_true c18
    clear c18
    obtain rfl := Option.some.inj H
    obtain ⟨Ao19, co19, eo19⟩ := Kd.S_slice HO_5.out
    subst eo19
    go_wp2_with (first | ((with_reducible refine gate_callee (f := 8) rfl ?_); refine goesL_ (some 32) rfl rfl Try.func8 (by kernel_rfl) rfl #[.slice Ao19 t502.length co19, .int .i64 1] rfl zm ?_; (with_reducible refine (laws_markCellSS.calls kj3 (fun k_ => NZ_ ≤ k_) (.slice Ao19 t502.length co19) t502 1 t507 t508 w _ ?side1 ?side2 A16.out).mono ?_); (case side1 => repeat (first | (with_reducible first | exact HB.out | apply below_alloc | apply pw_below_drewN | apply below_drew1) | exact HB.out)); (case side2 => exact HO_5.out); rintro e w20 ⟨rfl, hy0, hb, hkp⟩; refine ⟨_, rfl, ?_⟩; have n0_ := aM (Kd.V_mono (ok' := fun k_ => k_ < NZ_) (Kd.V_keptB (HO_3.out) hkp (fun k_ hk_ hs_ => Nat.not_le.2 hk_ hs_)) (fun k_ hk_ => hk_.1)); have n1_ := aM (hy0); have n2_ := aM (hb); clear HO_3 HO_5 HB; have HO_3 := n0_; have HO_5 := n1_; have HB := n2_; clear n0_ n1_ n2_; (try clear hb); (try clear hkp); (try clear hy0)) | ((with_reducible refine gate_callee (f := 9) rfl ?_); refine goesL_ (some 35) rfl rfl Try.func9 (by kernel_rfl) rfl #[.slice Ao19 t508.length co19, .int .i64 1] rfl (by (try simp only [mA, mB, mC]); first | done | (rw [show t508.length = t502.length from (Kd.S_reads' HO_5.out).1.symm] <;> rfl) | rfl | (simp only [lD, lT]; rfl)) ?_; (with_reducible refine (laws_heldCellSS.calls kj3 _ _ t508 1 t509 _ ?side1 ?side2 A17.out).mono ?_); (case side1 => repeat (first | exact (Kd.S_reads' HO_5.out).2.2 | (with_reducible refine Kd.C_alloc ?_ _) | (with_reducible refine Kd.C_drewN ?_ _) | (with_reducible refine Kd.C_drew ?_))); (case side2 => rw [show t508.length = t502.length from (Kd.S_reads' HO_5.out).1.symm]; exact (Kd.S_reads' HO_5.out).2.1); rintro e w' ⟨rfl, ⟨nd, rfl⟩⟩; refine ⟨_, rfl, ?_⟩))
    go_ret
    exact ⟨zw, zb⟩
   rw [if_neg c18] at H
   have c18b0 : decide (t509 < 0) = false := decide_eq_false c18
   clear c18
   by_cases c21 : t509 = t507
   rotate_left
   ·rw [if_neg c21] at H
    have c21b0 : (t509 == t507) = false := beq_eq_false_iff_ne.mpr c21
    have c21b1 : (t509 != t507) = true := bne_iff_ne.mpr c21
    obtain rfl := Option.some.inj H
    obtain ⟨Ao39, co39, eo39⟩ := Kd.S_slice HO_5.out
    subst eo39
    go_wp2_with (first | ((with_reducible refine gate_callee (f := 8) rfl ?_); refine goesL_ (some 32) rfl rfl Try.func8 (by kernel_rfl) rfl #[.slice Ao39 t502.length co39, .int .i64 1] rfl zm ?_; (with_reducible refine (laws_markCellSS.calls kj3 (fun k_ => NZ_ ≤ k_) (.slice Ao39 t502.length co39) t502 1 t507 t508 w _ ?side1 ?side2 A16.out).mono ?_); (case side1 => repeat (first | (with_reducible first | exact HB.out | apply below_alloc | apply pw_below_drewN | apply below_drew1) | exact HB.out)); (case side2 => exact HO_5.out); rintro e w40 ⟨rfl, hy0, hb, hkp⟩; refine ⟨_, rfl, ?_⟩; have n0_ := aM (Kd.V_mono (ok' := fun k_ => k_ < NZ_) (Kd.V_keptB (HO_3.out) hkp (fun k_ hk_ hs_ => Nat.not_le.2 hk_ hs_)) (fun k_ hk_ => hk_.1)); have n1_ := aM (hy0); have n2_ := aM (hb); clear HO_3 HO_5 HB; have HO_3 := n0_; have HO_5 := n1_; have HB := n2_; clear n0_ n1_ n2_; (try clear hb); (try clear hkp); (try clear hy0)) | ((with_reducible refine gate_callee (f := 9) rfl ?_); refine goesL_ (some 35) rfl rfl Try.func9 (by kernel_rfl) rfl #[.slice Ao39 t508.length co39, .int .i64 1] rfl (by (try simp only [mA, mB, mC]); first | done | (rw [show t508.length = t502.length from (Kd.S_reads' HO_5.out).1.symm] <;> rfl) | rfl | (simp only [lD, lT]; rfl)) ?_; (with_reducible refine (laws_heldCellSS.calls kj3 _ _ t508 1 t509 _ ?side1 ?side2 A17.out).mono ?_); (case side1 => repeat (first | exact (Kd.S_reads' HO_5.out).2.2 | (with_reducible refine Kd.C_alloc ?_ _) | (with_reducible refine Kd.C_drewN ?_ _) | (with_reducible refine Kd.C_drew ?_))); (case side2 => rw [show t508.length = t502.length from (Kd.S_reads' HO_5.out).1.symm]; exact (Kd.S_reads' HO_5.out).2.1); rintro e w' ⟨rfl, ⟨nd, rfl⟩⟩; refine ⟨_, rfl, ?_⟩))
    go_ret
    exact ⟨zw, zb⟩
   rw [if_pos c21] at H
   have c21b0 : (t509 == t507) = true := beq_iff_eq.mpr c21
   have c21b1 : (t509 != t507) = false := bne_eq_false_iff_eq.mpr c21
   clear c21
   replace H := Option.bind_eq_some_iff.mp H
   obtain ⟨⟨t510, t511⟩, A220, H⟩ := H
   replace H : ((laws_eqCellSS.f kj3 t510 t498).bind fun t514 => (if t514 = true then (laws_FnExactHexShapes.j1 kj3 t508 t507 (t511 != t501)) else (laws_FnExactHexShapes.j1 kj3 t508 t507 true))) = some r := H
   have A22 := aM A220
   clear A220
   have HC23 := aM H
   clear H
   obtain ⟨Ao24, co24, eo24⟩ := Kd.S_slice HO_5.out
   subst eo24
   go_upto_region 14 with (first | ((with_reducible refine gate_callee (f := 8) rfl ?_); refine goesL_ (some 32) rfl rfl Try.func8 (by kernel_rfl) rfl #[.slice Ao24 t502.length co24, .int .i64 1] rfl zm ?_; (with_reducible refine (laws_markCellSS.calls kj3 (fun k_ => NZ_ ≤ k_) (.slice Ao24 t502.length co24) t502 1 t507 t508 w _ ?side1 ?side2 A16.out).mono ?_); (case side1 => repeat (first | (with_reducible first | exact HB.out | apply below_alloc | apply pw_below_drewN | apply below_drew1) | exact HB.out)); (case side2 => exact HO_5.out); rintro e w25 ⟨rfl, hy0, hb, hkp⟩; refine ⟨_, rfl, ?_⟩; have n0_ := aM (Kd.V_mono (ok' := fun k_ => k_ < NZ_) (Kd.V_keptB (HO_3.out) hkp (fun k_ hk_ hs_ => Nat.not_le.2 hk_ hs_)) (fun k_ hk_ => hk_.1)); have n1_ := aM (hy0); have n2_ := aM (hb); clear HO_3 HO_5 HB; have HO_3 := n0_; have HO_5 := n1_; have HB := n2_; clear n0_ n1_ n2_; (try clear hb); (try clear hkp); (try clear hy0)) | ((with_reducible refine gate_callee (f := 9) rfl ?_); refine goesL_ (some 35) rfl rfl Try.func9 (by kernel_rfl) rfl #[.slice Ao24 t508.length co24, .int .i64 1] rfl (by (try simp only [mA, mB, mC]); first | done | (rw [show t508.length = t502.length from (Kd.S_reads' HO_5.out).1.symm] <;> rfl) | rfl | (simp only [lD, lT]; rfl)) ?_; (with_reducible refine (laws_heldCellSS.calls kj3 _ _ t508 1 t509 _ ?side1 ?side2 A17.out).mono ?_); (case side1 => repeat (first | exact (Kd.S_reads' HO_5.out).2.2 | (with_reducible refine Kd.C_alloc ?_ _) | (with_reducible refine Kd.C_drewN ?_ _) | (with_reducible refine Kd.C_drew ?_))); (case side2 => rw [show t508.length = t502.length from (Kd.S_reads' HO_5.out).1.symm]; exact (Kd.S_reads' HO_5.out).2.1); rintro e w' ⟨rfl, ⟨nd, rfl⟩⟩; refine ⟨_, rfl, ?_⟩) | ((with_reducible refine gate_callee (f := 6) rfl ?_); refine goesL_ (some 43) rfl rfl Try.func6 (by kernel_rfl) rfl #[.int .i64 a0] rfl zm ?_; (with_reducible refine (impl_HexShapes.calls kj3 a0 t510 t511 _ A22.out).mono ?_); rintro e w26 ⟨v512, rfl, ho0, hb⟩; refine ⟨_, rfl, ?_⟩; have n0_ := aM (Kd.V_elder' (mV_ HO_3.out) (Kd.S_base ho0) hb); have n1_ := aM (Kd.S_elder' (mS_ HO_5.out) (Kd.S_base ho0) hb); have n2_ := aM (Kd.S_lower (Kd.S_new' ho0 (Kd.S_lt (mS_ HO_5.out))) (below_size zb)); have n3_ := aM (below_step zb hb); clear HO_3 HO_5 HB; have HO_3 := n0_; have HO_5 := n1_; have HO513 := n2_; have HB := n3_; clear n0_ n1_ n2_ n3_; (try clear hb); (try clear hb2); (try clear hk); (try clear hi); (try clear ho0)))
   (try simp only [Act.put, xA, xB, xC])
   go_cut [54] (fun v54 wc => ∃ (kq : Nat) (x54_22 : Bool), v54 = .bool x54_22 ∧ Aside0 (laws_FnExactHexShapes.j1 kq t508 t507 x54_22 = some r) ∧ Aside0 (kq ≤ kj3) ∧ Aside0 (Kd.S (Kd.slice 43 k43) 36 wc w.heap.size (fun _ => True) (.slice Ao24 t502.length co24) t508) ∧ Aside0 (Below w.heap.size w wc))
   case first =>
    have H := HC23.out
    clear HC23
    replace H := Option.bind_eq_some_iff.mp H
    obtain ⟨t514, A270, H⟩ := H
    replace H : (if t514 = true then (laws_FnExactHexShapes.j1 kj3 t508 t507 (t511 != t501)) else (laws_FnExactHexShapes.j1 kj3 t508 t507 true)) = some r := H
    have A27 := aM A270
    clear A270
    by_cases c28 : t514 = true
    ·subst c28
     have H1 : (laws_FnExactHexShapes.j1 kj3 t508 t507 (t511 != t501)) = some r := by rw [if_pos rfl] at H; exact H
     clear H
     have H := H1
     clear H1
     have H' := aM H
     clear H
     obtain ⟨Ao29, co29, eo29⟩ := Kd.S_slice HO513.out
     subst eo29
     obtain ⟨Ao30, co30, eo30⟩ := Kd.V_slice HO_3.out
     subst eo30
     go_wp2_with (first | ((with_reducible refine gate_callee (f := 7) rfl ?_); refine goesL_ (some 48) rfl rfl Try.func7 (by kernel_rfl) rfl #[.slice Ao29 t510.length co29, .slice Ao30 t498.length co30] rfl zm ?_; (with_reducible refine (laws_eqCellSS.calls kj3 _ _ t510 _ _ t498 true _ ?side1 ?side2 ?side3 ?side4 A27.out).mono ?_); (case side1 => repeat (first | exact (Kd.S_reads' HO513.out).2.2 | (with_reducible refine Kd.C_alloc ?_ _) | (with_reducible refine Kd.C_drewN ?_ _) | (with_reducible refine Kd.C_drew ?_))); (case side2 => exact (Kd.S_reads' HO513.out).2.1); (case side3 => repeat (first | exact (Kd.V_reads' HO_3.out).2.2 | (with_reducible refine Kd.C_alloc ?_ _) | (with_reducible refine Kd.C_drewN ?_ _) | (with_reducible refine Kd.C_drew ?_))); (case side4 => exact (Kd.V_reads' HO_3.out).2.1); rintro e w31 ⟨rfl, hb⟩; refine ⟨_, rfl, ?_⟩; have n0_ := aM (Kd.V_below (mV_ HO_3.out) hb); have n1_ := aM (Kd.S_below (mS_ HO_5.out) hb); have n2_ := aM (Kd.S_below (mS_ HO513.out) hb); have n3_ := aM (below_step zb hb); clear HO_3 HO_5 HO513 HB; have HO_3 := n0_; have HO_5 := n1_; have HO513 := n2_; have HB := n3_; clear n0_ n1_ n2_ n3_; (try clear hb); (try clear hb2); (try clear hk); (try clear hi)))
     go_meet
     case rel => exact ⟨_, ((t511 != t501)), zr, H', ⟨by have := HJ3.out; first | omega | exact Nat.le_refl _⟩, ⟨zd32 HO_5.out⟩, ⟨zb⟩⟩
    replace c28 := Bool.eq_false_iff.mpr c28
    subst c28
    have H1 : (laws_FnExactHexShapes.j1 kj3 t508 t507 true) = some r := by rw [if_neg (show ¬ (false = true) by decide)] at H; exact H
    clear H
    have H := H1
    clear H1
    have H' := aM H
    clear H
    obtain ⟨Ao32, co32, eo32⟩ := Kd.S_slice HO513.out
    subst eo32
    obtain ⟨Ao33, co33, eo33⟩ := Kd.V_slice HO_3.out
    subst eo33
    go_wp2_with (first | ((with_reducible refine gate_callee (f := 7) rfl ?_); refine goesL_ (some 48) rfl rfl Try.func7 (by kernel_rfl) rfl #[.slice Ao32 t510.length co32, .slice Ao33 t498.length co33] rfl zm ?_; (with_reducible refine (laws_eqCellSS.calls kj3 _ _ t510 _ _ t498 false _ ?side1 ?side2 ?side3 ?side4 A27.out).mono ?_); (case side1 => repeat (first | exact (Kd.S_reads' HO513.out).2.2 | (with_reducible refine Kd.C_alloc ?_ _) | (with_reducible refine Kd.C_drewN ?_ _) | (with_reducible refine Kd.C_drew ?_))); (case side2 => exact (Kd.S_reads' HO513.out).2.1); (case side3 => repeat (first | exact (Kd.V_reads' HO_3.out).2.2 | (with_reducible refine Kd.C_alloc ?_ _) | (with_reducible refine Kd.C_drewN ?_ _) | (with_reducible refine Kd.C_drew ?_))); (case side4 => exact (Kd.V_reads' HO_3.out).2.1); rintro e w34 ⟨rfl, hb⟩; refine ⟨_, rfl, ?_⟩; have n0_ := aM (Kd.V_below (mV_ HO_3.out) hb); have n1_ := aM (Kd.S_below (mS_ HO_5.out) hb); have n2_ := aM (Kd.S_below (mS_ HO513.out) hb); have n3_ := aM (below_step zb hb); clear HO_3 HO_5 HO513 HB; have HO_3 := n0_; have HO_5 := n1_; have HO513 := n2_; have HB := n3_; clear n0_ n1_ n2_ n3_; (try clear hb); (try clear hb2); (try clear hk); (try clear hi)))
    go_meet
    case rel => exact ⟨_, (true), zr, H', ⟨by have := HJ3.out; first | omega | exact Nat.le_refl _⟩, ⟨zd32 HO_5.out⟩, ⟨zb⟩⟩
   case rest =>
    clear HC23
    try clear c1
    try clear c2
    try clear p2
    try clear c3
    try clear c5
    try clear c6
    try clear c7
    try clear c8
    try clear c9
    try clear c15
    try clear c18
    try clear c18b0
    try clear c21
    try clear c21b0
    try clear c21b1
    try clear c28
    try clear p2
    obtain ⟨kq, x54_22, rfl, HA, HJ22, HO_5, HB⟩ := hcut
    have hl5_22 := (Kd.S_reads' HO_5.out).1
    rw [hl5_22] at HO_5
    (try simp only [hl5_22])
    cases kq with
    | zero => exact absurd HA.out (by simp [laws_FnExactHexShapes.j1])
    | succ kj22 =>
     have H := HA.out
     clear HA
     simp only [laws_FnExactHexShapes.j1] at H
     by_cases c35 : x54_22 = true
     ·subst c35
      have H1 : (some false) = some r := by rw [if_pos rfl] at H; exact H
      clear H
      have H := H1
      clear H1
      obtain rfl := Option.some.inj H
      go_wp2
      go_ret
      exact ⟨zw, zb⟩
     replace c35 := Bool.eq_false_iff.mpr c35
     subst c35
     have H1 : ((laws_heldCellSS.f kj22 t508 1).bind fun t515 => (if t515 < 0 then (some false) else (if t515 = t507 then (some true) else (some false)))) = some r := by rw [if_neg (show ¬ (false = true) by decide)] at H; exact H
     clear H
     have H := H1
     clear H1
     replace H := Option.bind_eq_some_iff.mp H
     obtain ⟨t515, A360, H⟩ := H
     replace H : (if t515 < 0 then (some false) else (if t515 = t507 then (some true) else (some false))) = some r := H
     have A36 := aM A360
     clear A360
     by_cases c37 : t515 < 0
     ·rw [if_pos c37] at H
      have c37b0 : decide (t515 < 0) = true := decide_eq_true c37
      clear c37
      obtain rfl := Option.some.inj H
      go_wp2_with (first | ((with_reducible refine gate_callee (f := 9) rfl ?_); refine goesL_ (some 57) rfl rfl Try.func9 (by kernel_rfl) rfl #[.slice Ao24 t508.length co24, .int .i64 1] rfl zm ?_; (with_reducible refine (laws_heldCellSS.calls kj22 _ _ t508 1 t515 _ ?side1 ?side2 A36.out).mono ?_); (case side1 => repeat (first | exact (Kd.S_reads' HO_5.out).2.2 | (with_reducible refine Kd.C_alloc ?_ _) | (with_reducible refine Kd.C_drewN ?_ _) | (with_reducible refine Kd.C_drew ?_))); (case side2 => exact (Kd.S_reads' HO_5.out).2.1); rintro e w' ⟨rfl, ⟨nd, rfl⟩⟩; refine ⟨_, rfl, ?_⟩))
      go_ret
      exact ⟨zw, zb⟩
     rw [if_neg c37] at H
     have c37b0 : decide (t515 < 0) = false := decide_eq_false c37
     clear c37
     by_cases c38 : t515 = t507
     rotate_left
     ·rw [if_neg c38] at H
      have c38b0 : (t515 == t507) = false := beq_eq_false_iff_ne.mpr c38
      have c38b1 : (t515 != t507) = true := bne_iff_ne.mpr c38
      obtain rfl := Option.some.inj H
      go_wp2_with (first | ((with_reducible refine gate_callee (f := 9) rfl ?_); refine goesL_ (some 57) rfl rfl Try.func9 (by kernel_rfl) rfl #[.slice Ao24 t508.length co24, .int .i64 1] rfl zm ?_; (with_reducible refine (laws_heldCellSS.calls kj22 _ _ t508 1 t515 _ ?side1 ?side2 A36.out).mono ?_); (case side1 => repeat (first | exact (Kd.S_reads' HO_5.out).2.2 | (with_reducible refine Kd.C_alloc ?_ _) | (with_reducible refine Kd.C_drewN ?_ _) | (with_reducible refine Kd.C_drew ?_))); (case side2 => exact (Kd.S_reads' HO_5.out).2.1); rintro e w' ⟨rfl, ⟨nd, rfl⟩⟩; refine ⟨_, rfl, ?_⟩))
      go_ret
      exact ⟨zw, zb⟩
     rw [if_pos c38] at H
     have c38b0 : (t515 == t507) = true := beq_iff_eq.mpr c38
     have c38b1 : (t515 != t507) = false := bne_eq_false_iff_eq.mpr c38
     clear c38
     obtain rfl := Option.some.inj H
     go_wp2_with (first | ((with_reducible refine gate_callee (f := 9) rfl ?_); refine goesL_ (some 57) rfl rfl Try.func9 (by kernel_rfl) rfl #[.slice Ao24 t508.length co24, .int .i64 1] rfl zm ?_; (with_reducible refine (laws_heldCellSS.calls kj22 _ _ t508 1 t515 _ ?side1 ?side2 A36.out).mono ?_); (case side1 => repeat (first | exact (Kd.S_reads' HO_5.out).2.2 | (with_reducible refine Kd.C_alloc ?_ _) | (with_reducible refine Kd.C_drewN ?_ _) | (with_reducible refine Kd.C_drew ?_))); (case side2 => exact (Kd.S_reads' HO_5.out).2.1); rintro e w' ⟨rfl, ⟨nd, rfl⟩⟩; refine ⟨_, rfl, ?_⟩))
     go_ret
     exact ⟨zw, zb⟩
end Go.Proofs.Ytibbjiehblpmfaa.F
end
section
namespace Go.Proofs.Ytibbjiehblpmfaa.L
open Go.RowKit Go.Proofs.YtibbjiehblpmfaaW.PrintWords
theorem Ev.pos {α : Type} {c : Prop} [Decidable c] {f g : Nat → Option α} {r : α} (h : c) (e : Ev f r) : Ev (fun k => if c then f k else g k) r := by
  obtain ⟨K, e⟩ := e
  exact ⟨K, fun k hk => (if_pos h).trans (e k hk)⟩
theorem Ev.neg {α : Type} {c : Prop} [Decidable c] {f g : Nat → Option α} {r : α} (h : ¬ c) (e : Ev g r) : Ev (fun k => if c then f k else g k) r := by
  obtain ⟨K, e⟩ := e
  exact ⟨K, fun k hk => (if_neg h).trans (e k hk)⟩
theorem Ev.if_ {α : Type} {c : Prop} [Decidable c] {f g : Nat → Option α} {r s : α} (h : c → Ev f r) (h' : ¬ c → Ev g s) : Ev (fun k => if c then f k else g k) (if c then r else s) := by
  by_cases hc : c
  · rw [if_pos hc]; exact Ev.pos hc (h hc)
  · rw [if_neg hc]; exact Ev.neg hc (h' hc)
theorem Ev.of_eq {α : Type} {g : Nat → Option α} {r s : α} (h : Ev g r) (e : r = s) : Ev g s := e ▸ h
theorem Ev.bind0 {α β : Type} {o : Option α} {f : Nat → α → Option β} {a : α} {r : β} (h : o = some a) (k : Ev (fun n => f n a) r) : Ev (fun n => o.bind (f n)) r := by
  subst h
  exact k
theorem Ev.succ {α : Type} {g : Nat → Option α} {r : α} (h : Ev (fun k => g (k + 1)) r) : Ev g r := by
  obtain ⟨K, h⟩ := h
  refine ⟨K + 1, fun n hn => ?_⟩
  obtain ⟨m, rfl⟩ : ∃ m, n = m + 1 := ⟨n - 1, by omega⟩
  exact h m (by omega)
theorem w64 {n : Int} (h : -9223372036854775808 ≤ n) (h' : n ≤ 9223372036854775807) : wrap64 n = n := by
  unfold wrap64
  omega
theorem getD_at {α : Type} (pre suf : List α) (c d : α) : (pre ++ c :: suf).getD (pre.length : Int).toNat d = c := by
  simp [List.getD]
end Go.Proofs.Ytibbjiehblpmfaa.L
namespace Go.Proofs.Ytibbjiehblpmfaa.L
open Go.RowKit Go.Proofs.YtibbjiehblpmfaaW.PrintWords
theorem loop_list {α σ ρ : Type} (xs : List α) (l : Nat → Int → σ → Option ρ) (g : List α → List α → σ → ρ) (Inv : List α → σ → Prop)
    (hn : ∀ s, Inv xs s → Ev (fun k => l (k + 1) (xs.length : Int) s) (g xs [] s))
    (hs : ∀ (pre : List α) (c : α) (suf : List α) (s : σ), xs = pre ++ c :: suf → Inv pre s → (∀ s', Inv (pre ++ [c]) s' → Ev (fun k => l k ((pre.length : Int) + 1) s') (g (pre ++ [c]) suf s')) → Ev (fun k => l (k + 1) (pre.length : Int) s) (g pre (c :: suf) s)) :
    ∀ s, Inv [] s → Ev (fun k => l k 0 s) (g [] xs s) := by
  have key : ∀ (suf pre : List α), xs = pre ++ suf → ∀ s, Inv pre s → Ev (fun k => l k (pre.length : Int) s) (g pre suf s) := by
    intro suf
    induction suf with
    | nil =>
      intro pre hx s hi
      rw [List.append_nil] at hx
      subst hx
      exact Ev.succ (hn s hi)
    | cons c suf ih =>
      intro pre hx s hi
      refine Ev.succ (hs pre c suf s hx hi fun s' hi' => ?_)
      have := ih (pre ++ [c]) (by rw [hx]; simp) s' hi'
      rw [List.length_append] at this
      exact this
  intro s hi
  exact key xs [] rfl s hi
end Go.Proofs.Ytibbjiehblpmfaa.L
end
section
namespace Go.Proofs.Ytibbjiehblpmfaa.L
open Go.RowKit Go.Proofs.YtibbjiehblpmfaaW.PrintWords Go.Proofs.YtibbjiehblpmfaaW.PrintLast Go.Proofs.YtibbjiehblpmfaaW.PrintMore Go.Proofs.Ytibbjiehblpmfaa.F
set_option linter.unusedVariables false
set_option linter.unusedSimpArgs false
abbrev Cell := S43
theorem in_eq (a b c : Int) : spec_l01In.f a b c = some (decide (b ≤ a ∧ a ≤ c)) := by
  unfold spec_l01In.f
  by_cases h : a ≥ b
  · rw [if_pos h]; simp [show b ≤ a from h]
  · rw [if_neg h]; simp [show ¬ b ≤ a from h]
theorem within_eq (a b c : Int) : impl_within.f a b c = some (decide (b ≤ a ∧ a ≤ c)) := by
  unfold impl_within.f
  by_cases h : a ≥ b
  · rw [if_pos h]; simp [show b ≤ a from h]
  · rw [if_neg h]; simp [show ¬ b ≤ a from h]
def ok1 (n : Int) : Prop := -100 ≤ n ∧ n ≤ 100
instance (n : Int) : Decidable (ok1 n) := by unfold ok1; infer_instance
def okC (c : Cell) : Prop := ok1 c.f0 ∧ ok1 c.f1
instance (c : Cell) : Decidable (okC c) := by unfold okC; infer_instance
def ltC (a b : Cell) : Prop := a.f1 < b.f1 ∨ a.f1 = b.f1 ∧ a.f0 < b.f0
instance (a b : Cell) : Decidable (ltC a b) := by unfold ltC; infer_instance
theorem isCoordinate_eq (n : Int) : impl_isCoordinate.f n = some (decide (ok1 n)) := by
  unfold impl_isCoordinate.f
  rw [within_eq]
  rfl
theorem l02Cell_eq (x y : Int) : spec_l02Cell.f x y = some (decide (ok1 x ∧ ok1 y)) := by
  unfold spec_l02Cell.f
  rw [in_eq, in_eq]
  simp only [Option.bind_some]
  by_cases h : -100 ≤ x ∧ x ≤ 100
  · have h' : ok1 x := h
    simp only [h, and_self, decide_true, if_true, true_and, h', ok1]
  · have h' : ¬ ok1 x := h
    simp [h, h']
theorem eqCell_eq (a b c d : Int) : laws_eqCell.f a b c d = some (decide (a = c ∧ b = d)) := by
  unfold laws_eqCell.f
  by_cases h : a = c
  · by_cases h' : b = d <;> simp [h, h']
  · simp [h]
def small {α : Type} (l : List α) : Prop := l.length ≤ 4611686018427387904
theorem pre_lt {α : Type} {xs pre suf : List α} {c : α} (h : xs = pre ++ c :: suf) : ((pre.length : Int) < (xs.length : Int)) = True := by
  subst h; simp; omega
theorem pre_w {α : Type} {xs pre suf : List α} {c : α} (h : xs = pre ++ c :: suf) (hs : small xs) : wrap64 ((pre.length : Int) + 1) = (pre.length : Int) + 1 := by
  subst h
  unfold small at hs
  rw [List.length_append, List.length_cons] at hs
  exact w64 (by omega) (by omega)
theorem pre_0 {α : Type} (pre : List α) : (0 ≤ (pre.length : Int)) = True := by simp
theorem len_lt {α : Type} (xs : List α) : ((xs.length : Int) < (xs.length : Int)) = False := by simp
theorem at_pre {xs pre suf : List Cell} {c : Cell} (h : xs = pre ++ c :: suf) : rd_T43 xs (pre.length : Int) = c := by
  subst h; exact getD_at pre suf c _
theorem eqCellS_ev (a : List Cell) (ha : small a) : Ev (fun k => laws_eqCellS.f k a a) true := by
  unfold laws_eqCellS.f
  refine Ev.pos rfl ?_
  refine loop_list a (fun k i (_ : Unit) => laws_eqCellS.l0 k a a i) (fun _ _ _ => true) (fun _ _ => True) ?_ ?_ () trivial
  · intro _ _
    simp only [laws_eqCellS.l0, len_lt, if_false]
    exact Ev.now _
  · intro pre c suf _ hx _ ih
    simp only [laws_eqCellS.l0, pre_lt hx, pre_0, if_true, at_pre hx, eqCell_eq, and_self, decide_true, Option.bind_some, pre_w hx ha]
    exact ih () trivial
theorem pre_get {α : Type} {xs pre suf : List α} {c : α} (h : xs = pre ++ c :: suf) : xs[pre.length]? = some c := by
  subst h; simp
theorem pre_len {α : Type} {xs pre suf : List α} {c : α} (h : xs = pre ++ c :: suf) : pre.length < xs.length := by
  subst h; simp
def fits {α : Type} (l : List α) : Prop := l.length ≤ 1048576
theorem fits.small {α : Type} {l : List α} (h : fits l) : small l := by unfold fits at h; unfold L.small; omega
def cmpI (a b : Int) : Int := if a < b then -1 else if a > b then 1 else 0
theorem compare_eq (a b : Int) : cmp_Compare_int64.f a b = some (cmpI a b) := by
  unfold cmp_Compare_int64.f cmp_isNaN_int64.f cmpI
  simp only [bne_self_eq_false, Option.bind_some, Bool.false_eq_true, if_false]
  split
  · rfl
  · split <;> rfl
theorem l02Less_eq (a b c d : Int) : spec_l02Less.f a b c d = some (decide (b < d ∨ b = d ∧ a < c)) := by
  unfold spec_l02Less.f
  by_cases h : b < d
  · simp [h]
  · by_cases h' : b = d <;> simp [h, h']
    
def cmpC (a b : Cell) : Int := if cmpI a.f1 b.f1 = 0 then cmpI a.f0 b.f0 else cmpI a.f1 b.f1
theorem compareCells_eq (a b : Cell) : impl_compareCells.f a.f0 a.f1 b.f0 b.f1 = some (cmpC a b) := by
  unfold impl_compareCells.f cmpC
  simp only [compare_eq, Option.bind_some]
  split <;> rfl
theorem cmpC_lt {a b : Cell} : cmpC a b < 0 ↔ ltC a b := by
  unfold cmpC cmpI ltC
  repeat' split
  all_goals constructor <;> intro h <;> omega
theorem cmpC_ge {a b : Cell} : cmpC a b ≥ 0 ↔ ¬ ltC a b := by
  rw [← cmpC_lt]; omega
def goodFrom : Option Cell → List Cell → Bool
  | _, [] => true
  | p, c :: r => decide (okC c) && (match p with | none => true | some q => decide (ltC q c)) && goodFrom (some c) r
def shapeB (l : List Cell) : Bool := goodFrom none l && decide (1 ≤ (l.length : Int) ∧ (l.length : Int) ≤ 40)
theorem specIsShape_ev (l : List Cell) (hs : small l) : Ev (fun k => spec_IsShape.f k l) (shapeB l) := by
  unfold spec_IsShape.f
  refine loop_list l (fun k i (_ : Unit) => spec_IsShape.l0 k l i) (fun pre suf _ => goodFrom pre.getLast? suf && decide (1 ≤ (l.length : Int) ∧ (l.length : Int) ≤ 40)) (fun _ _ => True) ?_ ?_ () trivial
  · intro _ _
    simp only [spec_IsShape.l0, len_lt, if_false, in_eq, Option.bind_some]
    refine Ev.of_eq (Ev.now _) ?_
    simp [goodFrom]
  · intro pre c suf _ hx _ ih
    simp only [spec_IsShape.l0, pre_lt hx, pre_0, if_true, at_pre hx, l02Cell_eq, Option.bind_some, pre_w hx hs]
    by_cases hc : okC c
    · have hc' : ok1 c.f0 ∧ ok1 c.f1 := hc
      simp only [hc', and_self, decide_true, if_true]
      rcases List.eq_nil_or_concat pre with rfl | ⟨L, b, rfl⟩
      · refine Ev.neg (by simp) (Ev.of_eq (ih () trivial) ?_)
        simp [goodFrom, hc]
      · rw [List.concat_eq_append] at hx ih ⊢
        have hx2 : l = L ++ b :: (c :: suf) := by rw [hx]; simp
        have e1 : wrap64 (((L ++ [b]).length : Int) - 1) = (L.length : Int) := by
          unfold small at hs
          rw [hx2] at hs
          simp only [List.length_append, List.length_cons, List.length_nil] at hs ⊢
          rw [w64 (by omega) (by omega)]; omega
        refine Ev.pos (by simp <;> omega) ?_
        simp only [e1, pre_0, if_true, pre_lt hx2, at_pre hx2, l02Less_eq, Option.bind_some]
        by_cases hl : ltC b c
        · have hl' : b.f1 < c.f1 ∨ b.f1 = c.f1 ∧ b.f0 < c.f0 := hl
          refine Ev.pos (by simpa using hl') (Ev.of_eq (ih () trivial) ?_)
          simp [goodFrom, hc, hl]
        · have hl' : ¬ (b.f1 < c.f1 ∨ b.f1 = c.f1 ∧ b.f0 < c.f0) := hl
          refine Ev.neg (by simpa using hl') (Ev.of_eq (Ev.now _) ?_)
          simp [goodFrom, hc, hl]
    · have hc' : ¬ (ok1 c.f0 ∧ ok1 c.f1) := hc
      simp only [hc', decide_false, Bool.false_eq_true, if_false]
      refine Ev.of_eq (Ev.now _) ?_
      simp [goodFrom, hc]
theorem implIsShape_ev (l : List Cell) (hs : small l) : Ev (fun k => impl_IsShape.f k l) (shapeB l) := by
  unfold impl_IsShape.f
  refine loop_list l (fun k i (_ : Unit) => impl_IsShape.l0 k l l (l.length : Int) i) (fun pre suf _ => goodFrom pre.getLast? suf && decide (1 ≤ (l.length : Int) ∧ (l.length : Int) ≤ 40)) (fun _ _ => True) ?_ ?_ () trivial
  · intro _ _
    simp only [impl_IsShape.l0, len_lt, if_false]
    refine Ev.of_eq (Ev.if_ (fun _ => Ev.now _) (fun _ => Ev.now _)) ?_
    by_cases h : (l.length : Int) ≥ 1
    · rw [if_pos h]; simp [goodFrom, show 1 ≤ (l.length : Int) from h]
    · rw [if_neg h]; simp [goodFrom, show ¬ 1 ≤ (l.length : Int) from h]
  · intro pre c suf _ hx _ ih
    simp only [impl_IsShape.l0, pre_lt hx, pre_0, if_true, at_pre hx, isCoordinate_eq, Option.bind_some, pre_w hx hs]
    by_cases hc : okC c
    · have hc' : ok1 c.f0 ∧ ok1 c.f1 := hc
      simp only [hc'.1, hc'.2, decide_true, if_true]
      rcases List.eq_nil_or_concat pre with rfl | ⟨L, b, rfl⟩
      · refine Ev.neg (by simp) (Ev.of_eq (ih () trivial) ?_)
        simp [goodFrom, hc]
      · rw [List.concat_eq_append] at hx ih ⊢
        have hx2 : l = L ++ b :: (c :: suf) := by rw [hx]; simp
        have e1 : wrap64 (((L ++ [b]).length : Int) - 1) = (L.length : Int) := by
          unfold small at hs
          rw [hx2] at hs
          simp only [List.length_append, List.length_cons, List.length_nil] at hs ⊢
          rw [w64 (by omega) (by omega)]; omega
        refine Ev.pos (by simp <;> omega) ?_
        simp only [e1, pre_0, if_true, pre_lt hx2, at_pre hx2, compareCells_eq, Option.bind_some]
        by_cases hl : ltC b c
        · refine Ev.neg (fun h => cmpC_ge.1 h hl) (Ev.of_eq (ih () trivial) ?_)
          simp [goodFrom, hc, hl]
        · refine Ev.pos (cmpC_ge.2 hl) (Ev.of_eq (Ev.now _) ?_)
          simp [goodFrom, hc, hl]
    · by_cases h0 : ok1 c.f0
      · have h1 : ¬ ok1 c.f1 := fun h => hc ⟨h0, h⟩
        simp only [h0, h1, decide_true, if_true, decide_false, Bool.false_eq_true, if_false]
        refine Ev.of_eq (Ev.now _) ?_
        simp [goodFrom, hc]
      · simp only [h0, decide_false, Bool.false_eq_true, if_false]
        refine Ev.of_eq (Ev.now _) ?_
        simp [goodFrom, hc]
theorem goodFrom_ok : ∀ (l : List Cell) (p : Option Cell), goodFrom p l = true → ∀ c ∈ l, okC c
  | [], _, _, c, h => by simp at h
  | a :: r, p, hg, c, h => by
    simp only [goodFrom, Bool.and_eq_true, decide_eq_true_eq] at hg
    rcases List.mem_cons.1 h with rfl | h
    · exact hg.1.1
    · exact goodFrom_ok r _ hg.2 c h
theorem ltC_trans {a b c : Cell} (h : ltC a b) (h' : ltC b c) : ltC a c := by unfold ltC at *; omega
theorem goodFrom_lt : ∀ (l : List Cell) (p : Option Cell), goodFrom p l = true → (∀ q, p = some q → ∀ c ∈ l, ltC q c) ∧ l.Pairwise ltC
  | [], _, _ => ⟨fun _ _ c h => by simp at h, List.Pairwise.nil⟩
  | a :: r, p, hg => by
    simp only [goodFrom, Bool.and_eq_true, decide_eq_true_eq] at hg
    obtain ⟨h1, h2⟩ := goodFrom_lt r (some a) hg.2
    have h3 := h1 a rfl
    refine ⟨fun q hq c hc => ?_, List.pairwise_cons.2 ⟨h3, h2⟩⟩
    subst hq
    have h4 : ltC q a := by simpa using hg.1.2
    rcases List.mem_cons.1 hc with rfl | hc
    · exact h4
    · exact ltC_trans h4 (h3 c hc)
theorem goodFrom_of : ∀ (l : List Cell) (p : Option Cell), (∀ c ∈ l, okC c) → (∀ q, p = some q → ∀ c ∈ l, ltC q c) → l.Pairwise ltC → goodFrom p l = true
  | [], _, _, _, _ => rfl
  | a :: r, p, h0, h1, h2 => by
    obtain ⟨h3, h4⟩ := List.pairwise_cons.1 h2
    simp only [goodFrom, Bool.and_eq_true, decide_eq_true_eq]
    refine ⟨⟨h0 a List.mem_cons_self, ?_⟩, goodFrom_of r (some a) (fun c hc => h0 c (List.mem_cons_of_mem _ hc)) (fun q hq c hc => by injection hq with hq; subst hq; exact h3 c hc) h4⟩
    cases p with
    | none => rfl
    | some q => simpa using h1 q rfl a List.mem_cons_self
theorem shapeB_iff {l : List Cell} : shapeB l = true ↔ (∀ c ∈ l, okC c) ∧ l.Pairwise ltC ∧ 1 ≤ l.length ∧ l.length ≤ 40 := by
  unfold shapeB
  rw [Bool.and_eq_true, decide_eq_true_eq]
  constructor
  · rintro ⟨h, h'⟩
    exact ⟨goodFrom_ok l _ h, (goodFrom_lt l _ h).2, by omega, by omega⟩
  · rintro ⟨h1, h2, h3, h4⟩
    exact ⟨goodFrom_of l none h1 (fun _ h => by cases h) h2, by omega, by omega⟩
def minX : Int → List Cell → Int := fun z l => l.foldl (fun m c => mn m c.f0) z
def minY : Int → List Cell → Int := fun z l => l.foldl (fun m c => mn m c.f1) z
def leastOf (l : List Cell) : Int × Int := match l with | [] => (0, 0) | c :: r => (minX c.f0 r, minY c.f1 r)
theorem implCorner_ev (l : List Cell) (hs : small l) (h0 : 0 < l.length) : Ev (fun k => impl_corner.f k l) (leastOf l) := by
  unfold impl_corner.f
  obtain ⟨c, r, rfl⟩ : ∃ c r, l = c :: r := by cases l with | nil => simp at h0 | cons c r => exact ⟨c, r, rfl⟩
  refine Ev.pos (by simp <;> omega) ?_
  have h1 : rd_T43 (c :: r) 0 = c := rfl
  rw [h1]
  have := loop_list (c :: r) (fun k i (s : Int × Int) => impl_corner.l0 k (c :: r) ((c :: r).length : Int) i s.1 s.2) (fun _ suf s => (minX s.1 suf, minY s.2 suf)) (fun _ _ => True) ?_ ?_ (c.f0, c.f1) trivial
  · refine Ev.of_eq this ?_
    simp [leastOf, minX, minY, mn]
  · rintro s _
    simp only [impl_corner.l0, len_lt, if_false]
    exact Ev.now _
  · rintro pre d suf s hx _ ih
    simp only [impl_corner.l0, pre_lt hx, pre_0, if_true, at_pre hx, pre_w hx hs]
    exact ih (mn s.1 d.f0, mn s.2 d.f1) trivial
theorem loop_tail {α σ ρ : Type} (c : α) (r : List α) (l : Nat → Int → σ → Option ρ) (g : List α → List α → σ → ρ) (Inv : List α → σ → Prop)
    (hn : ∀ s, Inv (c :: r) s → Ev (fun k => l (k + 1) ((c :: r).length : Int) s) (g (c :: r) [] s))
    (hs : ∀ (pre : List α) (d : α) (suf : List α) (s : σ), c :: r = pre ++ d :: suf → pre ≠ [] → Inv pre s → (∀ s', Inv (pre ++ [d]) s' → Ev (fun k => l k ((pre.length : Int) + 1) s') (g (pre ++ [d]) suf s')) → Ev (fun k => l (k + 1) (pre.length : Int) s) (g pre (d :: suf) s)) :
    ∀ s, Inv [c] s → Ev (fun k => l k 1 s) (g [c] r s) := by
  have key : ∀ (suf pre : List α), c :: r = pre ++ suf → pre ≠ [] → ∀ s, Inv pre s → Ev (fun k => l k (pre.length : Int) s) (g pre suf s) := by
    intro suf
    induction suf with
    | nil =>
      intro pre hx _ s hi
      rw [List.append_nil] at hx
      subst hx
      exact Ev.succ (hn s hi)
    | cons d suf ih =>
      intro pre hx hp s hi
      refine Ev.succ (hs pre d suf s hx hp hi fun s' hi' => ?_)
      have := ih (pre ++ [d]) (by rw [hx]; simp) (by simp) s' hi'
      rw [List.length_append] at this
      exact this
  intro s hi
  exact key r [c] rfl (by simp) s hi
theorem specLeast_ev (l : List Cell) (hs : small l) (h0 : 0 < l.length) : Ev (fun k => spec_l02Least.f k l) (leastOf l) := by
  unfold spec_l02Least.f
  obtain ⟨c, r, rfl⟩ : ∃ c r, l = c :: r := by cases l with | nil => simp at h0 | cons c r => exact ⟨c, r, rfl⟩
  refine Ev.pos (by simp <;> omega) ?_
  have h1 : rd_T43 (c :: r) 0 = c := rfl
  rw [h1]
  refine loop_tail c r (fun k i (s : Int × Int) => spec_l02Least.l0 k (c :: r) s.1 s.2 i) (fun _ suf s => (minX s.1 suf, minY s.2 suf)) (fun _ _ => True) ?_ ?_ (c.f0, c.f1) trivial
  · rintro s _
    simp only [spec_l02Least.l0, len_lt, if_false]
    exact Ev.now _
  · rintro pre d suf s hx _ _ ih
    simp only [spec_l02Least.l0, pre_lt hx, pre_0, if_true, at_pre hx, pre_w hx hs]
    exact ih (mn s.1 d.f0, mn s.2 d.f1) trivial
theorem minX_le : ∀ (l : List Cell) (z : Int), minX z l ≤ z ∧ (∀ c ∈ l, minX z l ≤ c.f0) ∧ (minX z l = z ∨ ∃ c ∈ l, minX z l = c.f0)
  | [], z => ⟨Int.le_refl _, fun c h => by simp at h, .inl rfl⟩
  | a :: r, z => by
    obtain ⟨h1, h2, h3⟩ := minX_le r (mn z a.f0)
    have h4 : mn z a.f0 ≤ z ∧ mn z a.f0 ≤ a.f0 ∧ (mn z a.f0 = z ∨ mn z a.f0 = a.f0) := by unfold mn; split <;> omega
    have e : minX z (a :: r) = minX (mn z a.f0) r := rfl
    rw [e]
    refine ⟨by omega, fun c hc => ?_, ?_⟩
    · rcases List.mem_cons.1 hc with rfl | hc
      · omega
      · exact h2 c hc
    · rcases h3 with h3 | ⟨c, hc, h3⟩
      · rcases h4.2.2 with h5 | h5
        · exact .inl (h3.trans h5)
        · exact .inr ⟨a, List.mem_cons_self, h3.trans h5⟩
      · exact .inr ⟨c, List.mem_cons_of_mem _ hc, h3⟩
theorem minY_le : ∀ (l : List Cell) (z : Int), minY z l ≤ z ∧ (∀ c ∈ l, minY z l ≤ c.f1) ∧ (minY z l = z ∨ ∃ c ∈ l, minY z l = c.f1)
  | [], z => ⟨Int.le_refl _, fun c h => by simp at h, .inl rfl⟩
  | a :: r, z => by
    obtain ⟨h1, h2, h3⟩ := minY_le r (mn z a.f1)
    have h4 : mn z a.f1 ≤ z ∧ mn z a.f1 ≤ a.f1 ∧ (mn z a.f1 = z ∨ mn z a.f1 = a.f1) := by unfold mn; split <;> omega
    have e : minY z (a :: r) = minY (mn z a.f1) r := rfl
    rw [e]
    refine ⟨by omega, fun c hc => ?_, ?_⟩
    · rcases List.mem_cons.1 hc with rfl | hc
      · omega
      · exact h2 c hc
    · rcases h3 with h3 | ⟨c, hc, h3⟩
      · rcases h4.2.2 with h5 | h5
        · exact .inl (h3.trans h5)
        · exact .inr ⟨a, List.mem_cons_self, h3.trans h5⟩
      · exact .inr ⟨c, List.mem_cons_of_mem _ hc, h3⟩
theorem least_le {l : List Cell} {c : Cell} (h : c ∈ l) : (leastOf l).1 ≤ c.f0 ∧ (leastOf l).2 ≤ c.f1 := by
  cases l with
  | nil => simp at h
  | cons a r =>
    have hx := minX_le r a.f0
    have hy := minY_le r a.f1
    show minX a.f0 r ≤ c.f0 ∧ minY a.f1 r ≤ c.f1
    rcases List.mem_cons.1 h with rfl | h
    · exact ⟨hx.1, hy.1⟩
    · exact ⟨hx.2.1 c h, hy.2.1 c h⟩
theorem least_mem {l : List Cell} (h : l ≠ []) : (∃ c ∈ l, (leastOf l).1 = c.f0) ∧ (∃ c ∈ l, (leastOf l).2 = c.f1) := by
  cases l with
  | nil => exact absurd rfl h
  | cons a r =>
    refine ⟨?_, ?_⟩
    · rcases (minX_le r a.f0).2.2 with e | ⟨c, hc, e⟩
      · exact ⟨a, List.mem_cons_self, e⟩
      · exact ⟨c, List.mem_cons_of_mem _ hc, e⟩
    · rcases (minY_le r a.f1).2.2 with e | ⟨c, hc, e⟩
      · exact ⟨a, List.mem_cons_self, e⟩
      · exact ⟨c, List.mem_cons_of_mem _ hc, e⟩
def sameC (a b : Cell) : Bool := decide (a.f0 = b.f0) && decide (a.f1 = b.f1)
theorem sameC_iff {a b : Cell} : sameC a b = true ↔ a = b := by
  obtain ⟨a0, a1⟩ := a
  obtain ⟨b0, b1⟩ := b
  simp [sameC]
def idxF : List Cell → Cell → Int → Int
  | [], _, _ => -1
  | a :: r, c, i => if sameC a c = true then i else idxF r c (i + 1)
def idxC (l : List Cell) (c : Cell) : Int := idxF l c 0
theorem specIndex_ev (l : List Cell) (c : Cell) (hs : small l) : Ev (fun k => spec_l02Index.f k l c.f0 c.f1) (idxC l c) := by
  unfold spec_l02Index.f
  refine loop_list l (fun k i (_ : Unit) => spec_l02Index.l0 k l i c.f0 c.f1) (fun pre suf _ => idxF suf c (pre.length : Int)) (fun _ _ => True) ?_ ?_ () trivial
  · intro _ _
    simp only [spec_l02Index.l0, len_lt, if_false]
    exact Ev.now _
  · intro pre d suf _ hx _ ih
    simp only [spec_l02Index.l0, pre_lt hx, pre_0, if_true, at_pre hx, pre_w hx hs, idxF]
    have e : (d.f0 == c.f0 && d.f1 == c.f1) = sameC d c := by simp [sameC, BEq.beq]
    rw [e]
    refine Ev.if_ (fun _ => Ev.now _) (fun _ => Ev.of_eq (ih () trivial) ?_)
    simp
theorem idxF_spec : ∀ (l : List Cell) (c : Cell) (i : Int), 0 ≤ i → (idxF l c i = -1 ∧ c ∉ l) ∨ (∃ j : Nat, j < l.length ∧ idxF l c i = i + (j : Int) ∧ l[j]? = some c ∧ ∀ q : Nat, q < j → l[q]? ≠ some c)
  | [], c, i, _ => .inl ⟨rfl, by simp⟩
  | a :: r, c, i, hi => by
    unfold idxF
    by_cases h : sameC a c = true
    · rw [if_pos h]
      exact .inr ⟨0, by simp, by simp, by simp [sameC_iff.1 h], fun q hq => by omega⟩
    · rw [if_neg h]
      have hne : a ≠ c := fun e => h (sameC_iff.2 e)
      rcases idxF_spec r c (i + 1) (by omega) with ⟨h1, h2⟩ | ⟨j, h1, h2, h3, h4⟩
      · exact .inl ⟨h1, by simp only [List.mem_cons, not_or]; exact ⟨fun e => hne e.symm, h2⟩⟩
      · refine .inr ⟨j + 1, by simpa using h1, by rw [h2]; simp; omega, by simpa using h3, fun q hq => ?_⟩
        cases q with
        | zero => simpa using hne
        | succ q => simpa using h4 q (by omega)
theorem idxC_spec (l : List Cell) (c : Cell) : (idxC l c = -1 ∧ c ∉ l) ∨ (∃ j : Nat, j < l.length ∧ idxC l c = (j : Int) ∧ l[j]? = some c ∧ ∀ q : Nat, q < j → l[q]? ≠ some c) := by
  rcases idxF_spec l c 0 (Int.le_refl _) with h | ⟨j, h1, h2, h3⟩
  · exact .inl h
  · exact .inr ⟨j, h1, by unfold idxC; rw [h2]; omega, h3⟩
theorem idxC_mem (l : List Cell) (c : Cell) : idxC l c ≥ 0 ↔ c ∈ l := by
  rcases idxC_spec l c with ⟨h1, h2⟩ | ⟨j, h1, h2, h3, _⟩
  · rw [h1]; constructor
    · intro h; omega
    · intro h; exact absurd h h2
  · rw [h2]; constructor
    · intro _; exact List.mem_of_getElem? h3
    · intro _; omega
theorem ltC_irrefl (a : Cell) : ¬ ltC a a := by unfold ltC; omega
theorem ltC_total {a b : Cell} (h : ¬ ltC a b) (h' : ¬ ltC b a) : a = b := by
  obtain ⟨a0, a1⟩ := a
  obtain ⟨b0, b1⟩ := b
  unfold ltC at *
  simp only [S43.mk.injEq]
  simp only at h h'
  omega
instance (priority := low) : DecidableEq Cell := fun a b => decidable_of_iff (sameC a b = true) sameC_iff
def cmpL : List Cell → List Cell → Int
  | [], _ => 0
  | _ :: _, [] => 0
  | a :: r, b :: s => if ltC a b then -1 else if ltC b a then 1 else cmpL r s
def cmpS (a b : List Cell) : Int := if a.length = b.length then cmpL a b else if a.length < b.length then -1 else 1
theorem cmpL_zero : ∀ (a b : List Cell), a.length = b.length → (cmpL a b = 0 ↔ a = b)
  | [], b, h => by
    have : b = [] := List.length_eq_zero_iff.1 h.symm
    simp [cmpL, this]
  | a :: r, [], h => by simp at h
  | a :: r, b :: s, h => by
    unfold cmpL
    by_cases h1 : ltC a b
    · rw [if_pos h1]
      have : a ≠ b := fun e => ltC_irrefl b (e ▸ h1)
      simp [this]
    · rw [if_neg h1]
      by_cases h2 : ltC b a
      · rw [if_pos h2]
        have : a ≠ b := fun e => ltC_irrefl b (e ▸ h2)
        simp [this]
      · rw [if_neg h2, cmpL_zero r s (by simpa using h)]
        simp [ltC_total h1 h2]
theorem cmpS_zero (a b : List Cell) : cmpS a b = 0 ↔ a = b := by
  unfold cmpS
  by_cases h : a.length = b.length
  · rw [if_pos h]; exact cmpL_zero a b h
  · rw [if_neg h]
    have : a ≠ b := fun e => h (by rw [e])
    split <;> simp [this]
theorem specCompare_ev (a b : List Cell) (ha : small a) : Ev (fun k => spec_CompareShapes.f k a b) (cmpS a b) := by
  unfold spec_CompareShapes.f cmpS
  by_cases hl : a.length = b.length
  · rw [if_pos hl]
    refine Ev.pos (by omega) ?_
    refine loop_list a (fun k i (_ : Unit) => spec_CompareShapes.l0 k a b i) (fun pre suf _ => cmpL suf (b.drop pre.length)) (fun _ _ => True) ?_ ?_ () trivial
    · intro _ _
      simp only [spec_CompareShapes.l0, len_lt, if_false]
      exact Ev.of_eq (Ev.now _) (by simp [cmpL])
    · intro pre c suf _ hx _ ih
      have hp := pre_len hx
      have hpb : pre.length < b.length := by omega
      have hlt : ((pre.length : Int) < (b.length : Int)) = True := by simp; omega
      have eb : rd_T43 b (pre.length : Int) = b[pre.length] := by
        unfold rd_T43
        rw [List.getD_eq_getElem?_getD, Int.toNat_natCast, List.getElem?_eq_getElem hpb]
        rfl
      simp only [spec_CompareShapes.l0, pre_lt hx, pre_0, if_true, hlt, at_pre hx, pre_w hx ha, eb, l02Less_eq, Option.bind_some]
      rw [List.drop_eq_getElem_cons hpb, cmpL]
      have hih := ih () trivial
      rw [List.length_append, List.length_singleton] at hih
      generalize b.drop (pre.length + 1) = R at hih ⊢
      generalize b[pre.length] = d at hih ⊢
      by_cases h1 : ltC c d
      · have h1' : c.f1 < d.f1 ∨ c.f1 = d.f1 ∧ c.f0 < d.f0 := h1
        rw [if_pos h1]
        exact Ev.pos (by simpa using h1') (Ev.now _)
      · have h1' : ¬ (c.f1 < d.f1 ∨ c.f1 = d.f1 ∧ c.f0 < d.f0) := h1
        rw [if_neg h1]
        refine Ev.neg (by simpa using h1') ?_
        by_cases h2 : ltC d c
        · have h2' : d.f1 < c.f1 ∨ d.f1 = c.f1 ∧ d.f0 < c.f0 := h2
          rw [if_pos h2]
          exact Ev.pos (by simpa using h2') (Ev.now _)
        · have h2' : ¬ (d.f1 < c.f1 ∨ d.f1 = c.f1 ∧ d.f0 < c.f0) := h2
          rw [if_neg h2]
          exact Ev.neg (by simpa using h2') hih
  · rw [if_neg hl]
    refine Ev.neg (by omega) ?_
    by_cases h : a.length < b.length
    · rw [if_pos h]; exact Ev.pos (by omega) (Ev.now _)
    · rw [if_neg h]; exact Ev.neg (by omega) (Ev.now _)
theorem cmpC_val (c d : Cell) : cmpC c d = if ltC c d then -1 else if ltC d c then 1 else 0 := by
  unfold cmpC cmpI ltC
  repeat' split
  all_goals omega
theorem implCompareS_ev (a b : List Cell) (ha : small a) : Ev (fun k => impl_compareShapes.f k a b) (cmpS a b) := by
  unfold impl_compareShapes.f cmpS
  by_cases hl : a.length = b.length
  · rw [if_pos hl]
    refine Ev.pos (by omega) (Ev.bind ?_ (Ev.now _))
    unfold impl_Cell_69__impl_compareCells.f
    refine loop_list a (fun k i (_ : Unit) => impl_Cell_69__impl_compareCells.l0 k a b a (a.length : Int) i) (fun pre suf _ => cmpL suf (b.drop pre.length)) (fun _ _ => True) ?_ ?_ () trivial
    · intro _ _
      simp only [impl_Cell_69__impl_compareCells.l0, len_lt, if_false]
      exact Ev.neg (by omega) (Ev.of_eq (Ev.now _) (by simp [cmpL]))
    · intro pre c suf _ hx _ ih
      have hp := pre_len hx
      have hpb : pre.length < b.length := by omega
      have eb : rd_T43 b (pre.length : Int) = b[pre.length] := by
        unfold rd_T43
        rw [List.getD_eq_getElem?_getD, Int.toNat_natCast, List.getElem?_eq_getElem hpb]
        rfl
      simp only [impl_Cell_69__impl_compareCells.l0, pre_lt hx, pre_0, if_true, at_pre hx, pre_w hx ha, eb, compareCells_eq, Option.bind_some]
      refine Ev.neg (by omega) (Ev.pos (by omega) ?_)
      rw [List.drop_eq_getElem_cons hpb, cmpL]
      have hih := ih () trivial
      rw [List.length_append, List.length_singleton] at hih
      generalize b.drop (pre.length + 1) = R at hih ⊢
      generalize b[pre.length] = d at hih ⊢
      have hv := cmpC_val c d
      by_cases h1 : ltC c d
      · rw [if_pos h1] at hv ⊢
        exact Ev.neg (by omega) (Ev.of_eq (Ev.now _) hv)
      · rw [if_neg h1] at hv ⊢
        by_cases h2 : ltC d c
        · rw [if_pos h2] at hv ⊢
          exact Ev.neg (by omega) (Ev.of_eq (Ev.now _) hv)
        · rw [if_neg h2] at hv ⊢
          exact Ev.pos hv hih
  · rw [if_neg hl]
    refine Ev.neg (by omega) ?_
    by_cases h : a.length < b.length
    · rw [if_pos h]; exact Ev.pos (by omega) (Ev.now _)
    · rw [if_neg h]; exact Ev.neg (by omega) (Ev.now _)
def minS : List Cell → List (List Cell) → List Cell
  | m, [] => m
  | m, x :: r => minS (if cmpS x m < 0 then x else m) r
theorem at_preL2 {xs pre suf : List (List Cell)} {c : List Cell} (h : xs = pre ++ c :: suf) : rd_L2 xs (pre.length : Int) = c := by
  subst h; exact getD_at pre suf c _
theorem implMin_ev (c : List Cell) (r : List (List Cell)) (hs : small (c :: r)) (hx_ : ∀ x ∈ c :: r, small x) : Ev (fun k => impl_leastOf.f k (c :: r)) (minS c r) := by
  unfold impl_leastOf.f
  refine Ev.bind ?_ (Ev.now _)
  unfold impl_Cell_60__impl_compareShapes.f
  refine Ev.neg (by rw [List.length_cons]; omega) (Ev.pos (by rw [List.length_cons]; omega) ?_)
  have h1 : rd_L2 (c :: r) 0 = c := rfl
  rw [h1]
  refine loop_tail c r (fun k i (s : List Cell) => impl_Cell_60__impl_compareShapes.l0 k (c :: r) s i) (fun _ suf s => minS s suf) (fun _ s => True) ?_ ?_ c trivial
  · rintro s _
    simp only [impl_Cell_60__impl_compareShapes.l0, len_lt, if_false]
    exact Ev.now _
  · rintro pre d suf s hx _ _ ih
    simp only [impl_Cell_60__impl_compareShapes.l0, pre_lt hx, pre_0, if_true, at_preL2 hx, pre_w hx hs]
    refine Ev.bind (implCompareS_ev d s (hx_ d (by rw [hx]; simp))) ?_
    unfold minS
    by_cases h : cmpS d s < 0
    · rw [if_pos h]; exact Ev.pos h (ih d trivial)
    · rw [if_neg h]; exact Ev.neg h (ih s trivial)
theorem cmpV_ltC (a b : Cell) : cmpV a b = if ltC a b then -1 else if ltC b a then 1 else 0 := by
  unfold cmpV cI ltC
  repeat' split
  all_goals omega
theorem ordL_eq : ∀ a b : List Cell, ordL a b = cmpL a b
  | [], _ => by simp [ordL, cmpL]
  | _ :: _, [] => by simp [ordL, cmpL]
  | a :: r, b :: s => by
    unfold ordL cmpL
    rw [cmpV_ltC, ordL_eq r s]
    by_cases h1 : ltC a b
    · rw [if_pos h1, if_pos h1, if_neg (by omega)]
    · rw [if_neg h1, if_neg h1]
      by_cases h2 : ltC b a
      · rw [if_pos h2, if_pos h2, if_neg (by omega)]
      · rw [if_neg h2, if_neg h2, if_pos rfl]
theorem ordS_eq (a b : List Cell) : ordS a b = cmpS a b := by unfold ordS cmpS; rw [ordL_eq]
theorem cmpS_self (a : List Cell) : cmpS a a = 0 := (cmpS_zero a a).2 rfl
theorem cmpS_anti (a b : List Cell) : cmpS b a = -cmpS a b := by rw [← ordS_eq, ← ordS_eq]; exact ordS_anti a b
theorem cmpS_trans {a b c : List Cell} (h1 : cmpS a b ≤ 0) (h2 : cmpS b c ≤ 0) : cmpS a c ≤ 0 := by
  rw [← ordS_eq] at *
  exact ordS_trans h1 h2
theorem cmpS_lt_trans {a b c : List Cell} (h1 : cmpS a b < 0) (h2 : cmpS b c < 0) : cmpS a c < 0 := by
  have h3 := cmpS_trans (a := a) (b := b) (c := c) (by omega) (by omega)
  by_cases e : cmpS a c = 0
  · have := (cmpS_zero a c).1 e
    subst this
    have := cmpS_anti a b
    omega
  · omega
def asc (l : List (List Cell)) : Prop := l.Pairwise fun a b => cmpS a b < 0
theorem asc_eq : ∀ (a b : List (List Cell)), asc a → asc b → (∀ x, x ∈ a ↔ x ∈ b) → a = b
  | [], [], _, _, _ => rfl
  | [], b :: s, _, _, h => absurd ((h b).2 List.mem_cons_self) (by simp)
  | a :: r, [], _, _, h => absurd ((h a).1 List.mem_cons_self) (by simp)
  | a :: r, b :: s, ha, hb, h => by
    obtain ⟨h1, h2⟩ := List.pairwise_cons.1 ha
    obtain ⟨h3, h4⟩ := List.pairwise_cons.1 hb
    have e : a = b := by
      rcases List.mem_cons.1 ((h a).1 List.mem_cons_self) with e | e
      · exact e
      · rcases List.mem_cons.1 ((h b).2 List.mem_cons_self) with e' | e'
        · exact e'.symm
        · have := h1 b e'
          have := h3 a e
          have := cmpS_anti a b
          omega
    subst e
    congr 1
    refine asc_eq r s h2 h4 fun x => ⟨fun hx => ?_, fun hx => ?_⟩
    · rcases List.mem_cons.1 ((h x).1 (List.mem_cons_of_mem _ hx)) with e | e
      · have := h1 x hx
        rw [e, cmpS_self] at this
        omega
      · exact e
    · rcases List.mem_cons.1 ((h x).2 (List.mem_cons_of_mem _ hx)) with e | e
      · have := h3 x hx
        rw [e, cmpS_self] at this
        omega
      · exact e
theorem sortS_sorted (l : List (List Cell)) : (sortS l).Pairwise fun a b => cmpS a b ≤ 0 := by
  have := List.pairwise_mergeSort (le := fun x y : List Cell => !Go.Proofs.ltOf ordS y x) (fun a b c h1 h2 => by
    simp only [Bool.not_eq_true'] at *
    exact swoS.ntrans c b a h2 h1) (fun a b => by
    rw [Bool.or_eq_true]
    by_cases e : Go.Proofs.ltOf ordS b a = true
    · right
      simp only [Bool.not_eq_true']
      rw [ltS_iff]
      unfold Go.Proofs.ltOf at e
      rw [decide_eq_true_eq] at e
      rw [ordS_anti]
      omega
    · left
      simpa using e) l
  refine this.imp fun {a b} h => ?_
  simp only [Bool.not_eq_true'] at h
  rw [ltS_iff, ordS_eq] at h
  have := cmpS_anti a b
  omega
theorem sortS_mem {l : List (List Cell)} {x : List Cell} : x ∈ sortS l ↔ x ∈ l := (List.mergeSort_perm _ _).mem_iff
theorem compG_mem {β : Type} [DecidableEq β] : ∀ (l : List β) (p x : β), x ∈ compG p l ∨ x = p ↔ x ∈ l ∨ x = p
  | [], p, x => by simp [compG]
  | a :: r, p, x => by
    have ih := compG_mem r a x
    rw [compG]
    by_cases h : a = p
    · subst h
      rw [if_pos rfl, ih, List.mem_cons]
      constructor
      · rintro (h1 | h1)
        · exact .inl (.inr h1)
        · exact .inr h1
      · rintro ((h1 | h1) | h1)
        · exact .inr h1
        · exact .inl h1
        · exact .inr h1
    · rw [if_neg h, List.mem_cons, List.mem_cons]
      constructor
      · rintro ((h1 | h1) | h1)
        · exact .inl (.inl h1)
        · rcases ih.1 (.inl h1) with h2 | h2
          · exact .inl (.inr h2)
          · exact .inl (.inl h2)
        · exact .inr h1
      · rintro ((h1 | h1) | h1)
        · exact .inl (.inl h1)
        · rcases ih.2 (.inl h1) with h2 | h2
          · exact .inl (.inr h2)
          · exact .inl (.inl h2)
        · exact .inr h1
theorem compF_mem {β : Type} [DecidableEq β] {l : List β} {x : β} : x ∈ compF l ↔ x ∈ l := by
  cases l with
  | nil => simp [compF]
  | cons a r =>
    have := compG_mem r a x
    rw [compF, List.mem_cons, List.mem_cons]
    constructor
    · rintro (h | h)
      · exact .inl h
      · rcases this.1 (.inl h) with h | h
        · exact .inr h
        · exact .inl h
    · rintro (h | h)
      · exact .inl h
      · rcases this.2 (.inl h) with h | h
        · exact .inr h
        · exact .inl h
theorem compG_asc : ∀ (l : List (List Cell)) (p : List Cell), (p :: l).Pairwise (fun a b => cmpS a b ≤ 0) → asc (p :: compG p l)
  | [], p, _ => by simp [compG, asc]
  | a :: r, p, h => by
    obtain ⟨h1, h2⟩ := List.pairwise_cons.1 h
    have ih := compG_asc r a h2
    rw [compG]
    by_cases e : a = p
    · subst e
      rw [if_pos rfl]
      exact ih
    · rw [if_neg e]
      have hpa : cmpS p a < 0 := by
        have := h1 a List.mem_cons_self
        have hne : cmpS p a ≠ 0 := fun h => e ((cmpS_zero p a).1 h).symm
        omega
      refine List.pairwise_cons.2 ⟨fun b hb => ?_, ih⟩
      rcases List.mem_cons.1 hb with rfl | hb
      · exact hpa
      · exact cmpS_lt_trans hpa ((List.pairwise_cons.1 ih).1 b hb)
theorem compF_asc {l : List (List Cell)} (h : l.Pairwise fun a b => cmpS a b ≤ 0) : asc (compF l) := by
  cases l with
  | nil => exact List.Pairwise.nil
  | cons a r => rw [compF]; exact compG_asc r a h
def tidyL (l : List (List Cell)) : List (List Cell) := compF (sortS l)
theorem tidyL_mem {l : List (List Cell)} {x : List Cell} : x ∈ tidyL l ↔ x ∈ l := compF_mem.trans sortS_mem
theorem tidyL_asc (l : List (List Cell)) : asc (tidyL l) := compF_asc (sortS_sorted l)
theorem tidyL_len (l : List (List Cell)) : (tidyL l).length ≤ l.length := by
  refine Nat.le_trans (compF_len _) (Nat.le_of_eq ?_)
  exact (List.mergeSort_perm _ _).length_eq
theorem implTidy_eq (l : List (List Cell)) (h0 : 0 < l.length) (h1 : l.length < 4611686018427387904) : impl_tidyShapes.f l = some (tidyL l) := by
  unfold impl_tidyShapes.f
  rw [if_pos ⟨h0, h1⟩]
  rfl
def insS (x : List Cell) : List (List Cell) → List (List Cell)
  | [] => [x]
  | a :: r => if cmpS x a < 0 then x :: a :: r else a :: insS x r
theorem insS_mem (x : List Cell) : ∀ (l : List (List Cell)) (y : List Cell), y ∈ insS x l ↔ y = x ∨ y ∈ l
  | [], y => by simp [insS]
  | a :: r, y => by
    unfold insS
    split
    · simp
    · rw [List.mem_cons, insS_mem x r y, List.mem_cons]
      constructor
      · rintro (h | h | h)
        · exact .inr (.inl h)
        · exact .inl h
        · exact .inr (.inr h)
      · rintro (h | h | h)
        · exact .inr (.inl h)
        · exact .inl h
        · exact .inr (.inr h)
theorem insS_len (x : List Cell) : ∀ l : List (List Cell), (insS x l).length = l.length + 1
  | [] => rfl
  | a :: r => by unfold insS; split <;> simp [insS_len x r]
theorem insS_asc (x : List Cell) : ∀ l : List (List Cell), asc l → x ∉ l → asc (insS x l)
  | [], _, _ => by simp [insS, asc]
  | a :: r, h, hx => by
    obtain ⟨h1, h2⟩ := List.pairwise_cons.1 h
    unfold insS
    split
    · rename_i hc
      refine List.pairwise_cons.2 ⟨fun b hb => ?_, h⟩
      rcases List.mem_cons.1 hb with rfl | hb
      · exact hc
      · exact cmpS_lt_trans hc (h1 b hb)
    · rename_i hc
      refine List.pairwise_cons.2 ⟨fun b hb => ?_, insS_asc x r h2 (fun e => hx (List.mem_cons_of_mem _ e))⟩
      rcases (insS_mem x r b).1 hb with rfl | hb
      · have h3 : cmpS b a ≠ 0 := fun e => hx (by rw [(cmpS_zero b a).1 e]; exact List.mem_cons_self)
        have := cmpS_anti b a
        omega
      · exact h1 b hb
def addL (l : List (List Cell)) (x : List Cell) : List (List Cell) := if x ∈ l then l else insS x l
theorem addL_mem {l : List (List Cell)} {x y : List Cell} : y ∈ addL l x ↔ y = x ∨ y ∈ l := by
  unfold addL
  by_cases h : x ∈ l
  · rw [if_pos h]
    exact ⟨.inr, fun h' => h'.elim (fun e => e ▸ h) id⟩
  · rw [if_neg h]
    exact insS_mem x l y
theorem addL_asc {l : List (List Cell)} {x : List Cell} (h : asc l) : asc (addL l x) := by
  unfold addL
  by_cases hx : x ∈ l
  · rw [if_pos hx]; exact h
  · rw [if_neg hx]; exact insS_asc x l h hx
theorem addL_len (l : List (List Cell)) (x : List Cell) : (addL l x).length ≤ l.length + 1 := by
  unfold addL
  split
  · omega
  · rw [insS_len]; exact Nat.le_refl _
theorem specAdd_ev (l : List (List Cell)) (x : List Cell) (hl : l.length ≤ 1000000000) (hx_ : small x) : Ev (fun k => spec_l03Add.f k l x) (addL l x) := by
  have hs : small l := by unfold small; omega
  unfold spec_l03Add.f
  have key := loop_list l (fun k i (s : List (List Cell) × Bool) => spec_l03Add.l0 k l x s.1 s.2 i) (fun pre suf s => if x ∈ suf then l else if s.2 = true then s.1 ++ suf else s.1 ++ insS x suf) (fun pre s => s.1.length ≤ pre.length + 1 ∧ (s.2 = false → s.1.length ≤ pre.length)) ?_ ?_ ([], false) ⟨by simp, fun _ => by simp⟩
  · refine Ev.of_eq key ?_
    simp [addL]
  · rintro ⟨s, b⟩ ⟨hi, hj⟩
    simp only at hi hj
    simp only [spec_l03Add.l0, len_lt, if_false]
    cases b
    · refine Ev.neg (by simp) (Ev.pos (by omega) (Ev.of_eq (Ev.now _) ?_))
      simp [insS]
    · refine Ev.pos rfl (Ev.of_eq (Ev.now _) ?_)
      simp
  · rintro pre c suf ⟨s, b⟩ hx ⟨hi, hj⟩ ih
    have hp := pre_len hx
    simp only at hi hj
    simp only [spec_l03Add.l0, pre_lt hx, pre_0, if_true, at_preL2 hx, pre_w hx hs]
    refine Ev.bind (specCompare_ev x c hx_) ?_
    by_cases h0 : cmpS x c = 0
    · have e := (cmpS_zero x c).1 h0
      refine Ev.pos h0 (Ev.of_eq (Ev.now _) ?_)
      simp [e]
    · have hne : x ≠ c := fun e => h0 ((cmpS_zero x c).2 e)
      refine Ev.neg h0 ?_
      by_cases h1 : cmpS x c < 0
      · refine Ev.pos h1 ?_
        cases b
        · refine Ev.neg (by simp) (Ev.pos (by omega) ?_)
          have hj' := hj rfl
          refine Ev.pos (by simp; omega) (Ev.of_eq (ih ((s ++ [x]) ++ [c], true) ⟨by simp; omega, fun h => by cases h⟩) ?_)
          simp [insS, h1, hne]
        · refine Ev.pos rfl (Ev.pos (by omega) (Ev.of_eq (ih (s ++ [c], true) ⟨by simp; omega, fun h => by cases h⟩) ?_))
          simp [hne]
      · refine Ev.neg h1 (Ev.pos (by omega) (Ev.of_eq (ih (s ++ [c], b) ⟨by simp; omega, fun h => by have := hj h; simp; omega⟩) ?_))
        cases b
        · simp [insS, h1, hne]
        · simp [hne]
theorem sorted_le (x y : Cell) : (!Go.Proofs.ltOf cmpV y x) = decide (¬ ltC y x) := by
  rw [ltV]
  by_cases h : ltC y x
  · have h' : y.f1 < x.f1 ∨ y.f1 = x.f1 ∧ y.f0 < x.f0 := h
    simp [h, h']
  · have h' : ¬ (y.f1 < x.f1 ∨ y.f1 = x.f1 ∧ y.f0 < x.f0) := h
    simp only [h, h', decide_false]
    rfl
theorem sortC_perm (l : List Cell) : (sortC l).Perm l := List.mergeSort_perm _ _
theorem sortC_len (l : List Cell) : (sortC l).length = l.length := (sortC_perm l).length_eq
theorem sortC_mem {l : List Cell} {c : Cell} : c ∈ sortC l ↔ c ∈ l := (sortC_perm l).mem_iff
theorem sortC_sorted (l : List Cell) : (sortC l).Pairwise fun a b => ¬ ltC b a := by
  have := List.pairwise_mergeSort (le := fun x y : Cell => !Go.Proofs.ltOf cmpV y x) (fun a b c h1 h2 => by
    rw [sorted_le, decide_eq_true_eq] at *
    unfold ltC at *
    omega) (fun a b => by
    rw [sorted_le, sorted_le, Bool.or_eq_true, decide_eq_true_eq, decide_eq_true_eq]
    unfold ltC
    omega) l
  exact this.imp fun h => by rw [sorted_le, decide_eq_true_eq] at h; exact h
theorem eq_of_sorted : ∀ (l l' : List Cell), l.Perm l' → (l.Pairwise fun a b => ¬ ltC b a) → (l'.Pairwise fun a b => ¬ ltC b a) → l = l'
  | [], l', hp, _, _ => (List.Perm.nil_eq hp)
  | a :: r, [], hp, _, _ => absurd hp.symm (by simp)
  | a :: r, b :: s, hp, h1, h2 => by
    obtain ⟨h3, h4⟩ := List.pairwise_cons.1 h1
    obtain ⟨h5, h6⟩ := List.pairwise_cons.1 h2
    have hab : a = b := by
      have ha : a ∈ b :: s := hp.mem_iff.1 List.mem_cons_self
      have hb : b ∈ a :: r := hp.mem_iff.2 List.mem_cons_self
      have n1 : ¬ ltC b a := by
        rcases List.mem_cons.1 hb with e | e
        · rw [e]; unfold ltC; omega
        · exact h3 b e
      have n2 : ¬ ltC a b := by
        rcases List.mem_cons.1 ha with e | e
        · rw [e]; unfold ltC; omega
        · exact h5 a e
      obtain ⟨a0, a1⟩ := a
      obtain ⟨b0, b1⟩ := b
      unfold ltC at n1 n2
      simp only at n1 n2
      simp only [S43.mk.injEq]
      omega
    subst hab
    rw [eq_of_sorted r s (List.Perm.cons_inv hp) h4 h6]
theorem sortC_eq {l l' : List Cell} (hp : l'.Perm l) (hs : l'.Pairwise fun a b => ¬ ltC b a) : sortC l = l' :=
  eq_of_sorted _ _ ((sortC_perm l).trans hp.symm) (sortC_sorted l) hs
theorem implSorted_eq (l : List Cell) (h0 : 0 < l.length) (h1 : l.length ≤ 1000000000000) : impl_sorted.f l = some (sortC l) := by
  unfold impl_sorted.f impl_Cell_63.f impl_Cell_67__impl_compareCells.f
  rw [if_pos h1, Option.bind_some, if_pos ⟨h0, by omega⟩]
  rfl
def insC (c : Cell) : List Cell → List Cell
  | [] => [c]
  | a :: r => if ltC c a then c :: a :: r else a :: insC c r
theorem insC_perm (c : Cell) : ∀ l : List Cell, (insC c l).Perm (c :: l)
  | [] => List.Perm.refl _
  | a :: r => by
    unfold insC
    split
    · exact List.Perm.refl _
    · exact ((insC_perm c r).cons a).trans (List.Perm.swap c a r)
theorem insC_sorted (c : Cell) : ∀ l : List Cell, (l.Pairwise fun a b => ¬ ltC b a) → (insC c l).Pairwise fun a b => ¬ ltC b a
  | [], _ => by simp [insC]
  | a :: r, h => by
    obtain ⟨h1, h2⟩ := List.pairwise_cons.1 h
    unfold insC
    split
    · rename_i hc
      refine List.pairwise_cons.2 ⟨fun b hb => ?_, h⟩
      rcases List.mem_cons.1 hb with rfl | hb
      · unfold ltC at *; omega
      · have := h1 b hb
        unfold ltC at *; omega
    · rename_i hc
      refine List.pairwise_cons.2 ⟨fun b hb => ?_, insC_sorted c r h2⟩
      rcases List.mem_cons.1 ((insC_perm c r).mem_iff.1 hb) with rfl | hb
      · exact hc
      · exact h1 b hb
theorem specInsert_ev (l : List Cell) (c : Cell) (hl : l.length ≤ 1048576) : Ev (fun k => spec_l02Insert.f k l c.f0 c.f1) (insC c l) := by
  have hs : small l := by unfold small; omega
  unfold spec_l02Insert.f
  have := loop_list l (fun k i (s : List Cell × Bool) => spec_l02Insert.l0 k l s.1 s.2 i c.f0 c.f1) (fun pre suf s => if s.2 = true then s.1 ++ suf else s.1 ++ insC c suf) (fun pre s => s.1.length ≤ pre.length + 1 ∧ (s.2 = false → s.1.length = pre.length)) ?_ ?_ ([], false) ⟨by simp, fun _ => rfl⟩
  · simpa using this
  · rintro ⟨s, b⟩ ⟨h1, h2⟩
    simp only at h1 h2
    simp only [spec_l02Insert.l0, len_lt, if_false]
    cases b
    · refine Ev.neg (by simp) (Ev.pos (by omega) (Ev.of_eq (Ev.now _) ?_))
      simp [insC]
    · refine Ev.pos rfl (Ev.of_eq (Ev.now _) ?_)
      simp
  · rintro pre d suf ⟨s, b⟩ hx ⟨h1, h2⟩ ih
    have hp := pre_len hx
    simp only at h1 h2
    simp only [spec_l02Insert.l0, pre_lt hx, pre_0, if_true, at_pre hx, pre_w hx hs]
    cases b
    · refine Ev.neg (by simp) ?_
      simp only [l02Less_eq, Option.bind_some]
      have h2' := h2 rfl
      by_cases hd : ltC c d
      · have hd' : c.f1 < d.f1 ∨ c.f1 = d.f1 ∧ c.f0 < d.f0 := hd
        refine Ev.pos (by simpa using hd') (Ev.pos (by omega) ?_)
        refine Ev.pos (by simp; omega) (Ev.of_eq (ih ((s ++ [(⟨c.f0, c.f1⟩ : Cell)]) ++ [(⟨d.f0, d.f1⟩ : Cell)], true) ⟨by simp; omega, fun h => by cases h⟩) ?_)
        simp [insC, hd]
      · have hd' : ¬ (c.f1 < d.f1 ∨ c.f1 = d.f1 ∧ c.f0 < d.f0) := hd
        refine Ev.neg (by simpa using hd') (Ev.pos (by omega) (Ev.of_eq (ih (s ++ [(⟨d.f0, d.f1⟩ : Cell)], false) ⟨by simp; omega, fun _ => by simp; omega⟩) ?_))
        simp [insC, hd]
    · refine Ev.pos rfl (Ev.pos (by omega) (Ev.of_eq (ih (s ++ [(⟨d.f0, d.f1⟩ : Cell)], true) ⟨by simp; omega, fun h => by cases h⟩) ?_))
      simp
def insAll : List Cell → List Cell → List Cell
  | acc, [] => acc
  | acc, c :: r => insAll (insC c acc) r
theorem insAll_spec : ∀ (l acc : List Cell), (acc.Pairwise fun a b => ¬ ltC b a) → (insAll acc l).Perm (acc ++ l) ∧ (insAll acc l).Pairwise fun a b => ¬ ltC b a
  | [], acc, h => ⟨by simp [insAll], h⟩
  | c :: r, acc, h => by
    obtain ⟨h1, h2⟩ := insAll_spec r (insC c acc) (insC_sorted c acc h)
    refine ⟨h1.trans ?_, h2⟩
    refine ((insC_perm c acc).append_right r).trans ?_
    exact List.perm_middle.symm
theorem specSortI_ev (l : List Cell) (hl : l.length ≤ 1048576) : Ev (fun k => spec_l02Sort.f k l) (insAll [] l) := by
  have hs : small l := by unfold small; omega
  unfold spec_l02Sort.f
  refine loop_list l (fun k i (s : List Cell) => spec_l02Sort.l0 k l s i) (fun pre suf s => insAll s suf) (fun pre s => s.length = pre.length) ?_ ?_ [] rfl
  · intro s _
    simp only [spec_l02Sort.l0, len_lt, if_false]
    exact Ev.now _
  · intro pre c suf s hx hi ih
    have hp := pre_len hx
    simp only [spec_l02Sort.l0, pre_lt hx, pre_0, if_true, at_pre hx, pre_w hx hs]
    refine Ev.bind (specInsert_ev s c (by omega)) (ih _ ?_)
    rw [(insC_perm c s).length_eq]
    simp [hi]
theorem insAll_eq (l : List Cell) : insAll [] l = sortC l := by
  obtain ⟨h1, h2⟩ := insAll_spec l [] List.Pairwise.nil
  exact (sortC_eq (by simpa using h1) h2).symm
theorem specSort_ev (l : List Cell) (hl : l.length ≤ 1048576) : Ev (fun k => spec_l02Sort.f k l) (sortC l) := by
  rw [← insAll_eq]
  exact specSortI_ev l hl
def moveL (l : List Cell) (x y : Int) : List Cell := l.map fun c => ⟨wrap64 (c.f0 + x), wrap64 (c.f1 + y)⟩
theorem moveL_len (l : List Cell) (x y : Int) : (moveL l x y).length = l.length := by simp [moveL]
theorem specMove_ev (l : List Cell) (x y : Int) (hl : l.length ≤ 1048576) : Ev (fun k => spec_l02Move.f k l x y) (moveL l x y) := by
  have hs : small l := by unfold small; omega
  unfold spec_l02Move.f
  have := loop_list l (fun k i (s : List Cell) => spec_l02Move.l0 k l x y s i) (fun pre suf s => s ++ moveL suf x y) (fun pre s => s.length = pre.length) ?_ ?_ [] rfl
  · simpa using this
  · intro s _
    simp only [spec_l02Move.l0, len_lt, if_false]
    exact Ev.of_eq (Ev.now _) (by simp [moveL])
  · intro pre c suf s hx hi ih
    have hp := pre_len hx
    simp only [spec_l02Move.l0, pre_lt hx, pre_0, if_true, at_pre hx, pre_w hx hs]
    refine Ev.pos (by omega) (Ev.of_eq (ih _ (by simp [hi])) ?_)
    simp [moveL]
theorem implMoved_ev (l : List Cell) (x y : Int) (hl : l.length ≤ 1048576) : Ev (fun k => impl_moved.f k l x y) (moveL l x y) := by
  have hs : small l := by unfold small; omega
  unfold impl_moved.f
  refine Ev.pos (by omega) (Ev.pos (by omega) ?_)
  have := loop_list l (fun k i (s : List Cell) => impl_moved.l0 k x y s l (l.length : Int) i) (fun pre suf s => s ++ moveL suf x y) (fun pre s => s.length = pre.length) ?_ ?_ [] rfl
  · simpa using this
  · intro s _
    simp only [impl_moved.l0, len_lt, if_false]
    exact Ev.of_eq (Ev.now _) (by simp [moveL])
  · intro pre c suf s hx hi ih
    have hp := pre_len hx
    simp only [impl_moved.l0, pre_lt hx, pre_0, if_true, at_pre hx, pre_w hx hs]
    refine Ev.pos (by omega) (Ev.of_eq (ih _ (by simp [hi])) ?_)
    simp [moveL]
def normalL (l : List Cell) : List Cell := moveL l (wrap64 (-(leastOf l).1)) (wrap64 (-(leastOf l).2))
theorem normalL_len (l : List Cell) : (normalL l).length = l.length := moveL_len _ _ _
theorem implNormal_ev (l : List Cell) (hl : l.length ≤ 1048576) (h0 : 0 < l.length) : Ev (fun k => impl_normal.f k l) (normalL l) := by
  unfold impl_normal.f
  refine Ev.bind (implCorner_ev l (by unfold small; omega) h0) (Ev.bind (implMoved_ev l _ _ hl) (Ev.now _))
end Go.Proofs.Ytibbjiehblpmfaa.L
end
section
namespace Go.Proofs.Ytibbjiehblpmfaa.L
open Go.RowKit Go.Proofs.YtibbjiehblpmfaaW.PrintWords Go.Proofs.YtibbjiehblpmfaaW.PrintLast Go.Proofs.YtibbjiehblpmfaaW.PrintMore Go.Proofs.Ytibbjiehblpmfaa.F
set_option linter.unusedVariables false
set_option linter.unusedSimpArgs false
def freeOf (s l : List Cell) : List Cell := l.filter fun d => !decide (d ∈ s)
def besideR (nb : Cell → List Cell) (s : List Cell) : List Cell := s.flatMap fun c => freeOf s (nb c)
def besideL (nb : Cell → List Cell) (s : List Cell) : List Cell := compF (sortC (besideR nb s))
def grownR (nb : Cell → List Cell) (nf : List Cell → List Cell) (s : List Cell) : List (List Cell) := (besideL nb s).map fun d => nf (sortC (s ++ [d]))
def grownL (nb : Cell → List Cell) (nf : List Cell → List Cell) (s : List Cell) : List (List Cell) := tidyL (grownR nb nf s)
def nextI (nb : Cell → List Cell) (nf : List Cell → List Cell) (l : List (List Cell)) : List (List Cell) := tidyL (l.flatMap (grownL nb nf))
def moreOf (nb : Cell → List Cell) (nf : List Cell → List Cell) (s : List Cell) : List (List Cell) := s.flatMap fun c => (freeOf s (nb c)).map fun d => nf (insC d s)
def nextS (nb : Cell → List Cell) (nf : List Cell → List Cell) (l : List (List Cell)) : List (List Cell) := (l.flatMap (moreOf nb nf)).foldl addL []
def growI (nb : Cell → List Cell) (nf : List Cell → List Cell) : Nat → List (List Cell) → List (List Cell)
  | 0, l => l
  | n + 1, l => growI nb nf n (nextI nb nf l)
def growS (nb : Cell → List Cell) (nf : List Cell → List Cell) : Nat → List (List Cell) → List (List Cell)
  | 0, l => l
  | n + 1, l => growS nb nf n (nextS nb nf l)
theorem foldAdd_asc : ∀ (xs acc : List (List Cell)), asc acc → asc (xs.foldl addL acc)
  | [], _, h => h
  | x :: r, acc, h => foldAdd_asc r _ (addL_asc h)
theorem foldAdd_mem : ∀ (xs acc : List (List Cell)) (y : List Cell), y ∈ xs.foldl addL acc ↔ y ∈ xs ∨ y ∈ acc
  | [], acc, y => by simp
  | x :: r, acc, y => by
    rw [List.foldl_cons, foldAdd_mem r, addL_mem, List.mem_cons]
    constructor
    · rintro (h | h | h)
      · exact .inl (.inr h)
      · exact .inl (.inl h)
      · exact .inr h
    · rintro ((h | h) | h)
      · exact .inr (.inl h)
      · exact .inl h
      · exact .inr (.inr h)
theorem foldAdd_len : ∀ (xs acc : List (List Cell)), (xs.foldl addL acc).length ≤ acc.length + xs.length
  | [], _ => by simp
  | x :: r, acc => by
    rw [List.foldl_cons, List.length_cons]
    have := foldAdd_len r (addL acc x)
    have := addL_len acc x
    omega
theorem insC_eq {s : List Cell} (d : Cell) (h : s.Pairwise fun a b => ¬ ltC b a) : insC d s = sortC (s ++ [d]) :=
  (sortC_eq ((insC_perm d s).trans (List.perm_append_singleton d s).symm) (insC_sorted d s h)).symm
theorem lt_sorted {s : List Cell} (h : s.Pairwise ltC) : s.Pairwise fun a b => ¬ ltC b a := h.imp fun {a b} h => by unfold ltC at *; omega
theorem besideL_mem {nb : Cell → List Cell} {s : List Cell} {d : Cell} : d ∈ besideL nb s ↔ ∃ c ∈ s, d ∈ nb c ∧ d ∉ s := by
  unfold besideL besideR freeOf
  rw [compF_mem, sortC_mem, List.mem_flatMap]
  simp
theorem grownL_mem {nb : Cell → List Cell} {nf : List Cell → List Cell} {s x : List Cell} (h : s.Pairwise ltC) : x ∈ grownL nb nf s ↔ x ∈ moreOf nb nf s := by
  unfold grownL grownR moreOf
  rw [tidyL_mem, List.mem_map, List.mem_flatMap]
  constructor
  · rintro ⟨d, hd, rfl⟩
    obtain ⟨c, hc, h1, h2⟩ := besideL_mem.1 hd
    refine ⟨c, hc, List.mem_map.2 ⟨d, ?_, by rw [insC_eq d (lt_sorted h)]⟩⟩
    unfold freeOf
    simp [h1, h2]
  · rintro ⟨c, hc, hx⟩
    obtain ⟨d, hd, rfl⟩ := List.mem_map.1 hx
    unfold freeOf at hd
    simp at hd
    exact ⟨d, besideL_mem.2 ⟨c, hc, hd.1, hd.2⟩, by rw [insC_eq d (lt_sorted h)]⟩
theorem next_eq {nb : Cell → List Cell} {nf : List Cell → List Cell} {l : List (List Cell)} (h : ∀ s ∈ l, s.Pairwise ltC) : nextI nb nf l = nextS nb nf l := by
  refine asc_eq _ _ (tidyL_asc _) (foldAdd_asc _ _ List.Pairwise.nil) fun x => ?_
  unfold nextI nextS
  rw [tidyL_mem, foldAdd_mem, List.mem_flatMap, List.mem_flatMap]
  constructor
  · rintro ⟨s, hs, hx⟩
    exact .inl ⟨s, hs, (grownL_mem (h s hs)).1 hx⟩
  · rintro (⟨s, hs, hx⟩ | hx)
    · exact ⟨s, hs, (grownL_mem (h s hs)).2 hx⟩
    · simp at hx
structure Good (P : Cell → Prop) (m : Int) (n : Nat) (s : List Cell) : Prop where
  len : s.length = n
  pos : 1 ≤ n
  lt : s.Pairwise ltC
  box : ∀ c ∈ s, 0 ≤ c.f0 ∧ c.f0 ≤ 2 + m ∧ 0 ≤ c.f1 ∧ c.f1 ≤ 2 + m
  sp : ∀ c ∈ s, ∀ d ∈ s, c.f0 - d.f0 ≤ m ∧ c.f1 - d.f1 ≤ m ∧ (c.f0 + c.f1) - (d.f0 + d.f1) ≤ m
  p : ∀ c ∈ s, P c
structure Pre (P : Cell → Prop) (m : Int) (n : Nat) (s : List Cell) : Prop where
  len : s.length = n
  pos : 1 ≤ n
  lt : s.Pairwise ltC
  box : ∀ c ∈ s, -1000 ≤ c.f0 ∧ c.f0 ≤ 1000 ∧ -1000 ≤ c.f1 ∧ c.f1 ≤ 1000
  sp : ∀ c ∈ s, ∀ d ∈ s, c.f0 - d.f0 ≤ m ∧ c.f1 - d.f1 ≤ m ∧ (c.f0 + c.f1) - (d.f0 + d.f1) ≤ m
  p : ∀ c ∈ s, P c
structure Latt (nb : Cell → List Cell) (nf : List Cell → List Cell) (P : Cell → Prop) (D : Int) : Prop where
  d0 : 0 ≤ D ∧ D ≤ 2
  near : ∀ c, (-500 ≤ c.f0 ∧ c.f0 ≤ 500 ∧ -500 ≤ c.f1 ∧ c.f1 ≤ 500) → P c → ∀ d ∈ nb c, (d.f0 - c.f0 ≤ D ∧ c.f0 - d.f0 ≤ D) ∧ (d.f1 - c.f1 ≤ D ∧ c.f1 - d.f1 ≤ D) ∧ ((d.f0 + d.f1) - (c.f0 + c.f1) ≤ D ∧ (c.f0 + c.f1) - (d.f0 + d.f1) ≤ D) ∧ P d
  norm : ∀ s n m, 0 ≤ m → m ≤ 100 → Pre P m n s → Good P m n (nf s)
  cnt : ∀ c, (nb c).length ≤ 6
  low : ∀ c, (-500 ≤ c.f0 ∧ c.f0 ≤ 500 ∧ -500 ≤ c.f1 ∧ c.f1 ≤ 500) → ∃ d ∈ nb c, ltC d c
theorem insC_mem {c d : Cell} {s : List Cell} : c ∈ insC d s ↔ c = d ∨ c ∈ s := by
  rw [(insC_perm d s).mem_iff, List.mem_cons]
theorem insC_lt (d : Cell) : ∀ s : List Cell, s.Pairwise ltC → d ∉ s → (insC d s).Pairwise ltC
  | [], _, _ => by simp [insC]
  | a :: r, h, hd => by
    obtain ⟨h1, h2⟩ := List.pairwise_cons.1 h
    unfold insC
    split
    · rename_i hc
      refine List.pairwise_cons.2 ⟨fun b hb => ?_, h⟩
      rcases List.mem_cons.1 hb with rfl | hb
      · exact hc
      · have := h1 b hb
        unfold ltC at *; omega
    · rename_i hc
      refine List.pairwise_cons.2 ⟨fun b hb => ?_, insC_lt d r h2 (fun e => hd (List.mem_cons_of_mem _ e))⟩
      rcases insC_mem.1 hb with rfl | hb
      · have hne : b ≠ a := fun e => hd (by rw [e]; exact List.mem_cons_self)
        obtain ⟨b0, b1⟩ := b
        obtain ⟨a0, a1⟩ := a
        unfold ltC at *
        simp only [ne_eq, S43.mk.injEq] at *
        omega
      · exact h1 b hb
section
variable {nb : Cell → List Cell} {nf : List Cell → List Cell} {P : Cell → Prop} {D : Int}
theorem Good.more (L : Latt nb nf P D) {m : Int} {n : Nat} {s : List Cell} (h : Good P m n s) (hm : 0 ≤ m ∧ m ≤ 80) {c d : Cell} (hc : c ∈ s) (hd : d ∈ nb c) (hn : d ∉ s) : Pre P (m + D) (n + 1) (insC d s) := by
  have hbc := h.box c hc
  obtain ⟨h1, h2, h3, h4⟩ := L.near c (by omega) (h.p c hc) d hd
  have hD := L.d0
  refine ⟨by rw [(insC_perm d s).length_eq, List.length_cons, h.len], by omega, insC_lt d s h.lt hn, fun e he => ?_, fun e he f hf => ?_, fun e he => ?_⟩
  · rcases insC_mem.1 he with rfl | he
    · omega
    · have := h.box e he; omega
  · rcases insC_mem.1 he with rfl | he'
    · rcases insC_mem.1 hf with rfl | hf'
      · omega
      · have := h.sp c hc f hf'
        have := h.sp f hf' c hc
        omega
    · rcases insC_mem.1 hf with rfl | hf'
      · have := h.sp e he' c hc
        omega
      · have := h.sp e he' f hf'
        omega
  · rcases insC_mem.1 he with rfl | he
    · exact h4
    · exact h.p e he
theorem good_more (L : Latt nb nf P D) {m : Int} {n : Nat} {s x : List Cell} (h : Good P m n s) (hm : 0 ≤ m ∧ m ≤ 80) (hx : x ∈ moreOf nb nf s) : Good P (m + D) (n + 1) x := by
  unfold moreOf at hx
  obtain ⟨c, hc, hx⟩ := List.mem_flatMap.1 hx
  obtain ⟨d, hd, rfl⟩ := List.mem_map.1 hx
  unfold freeOf at hd
  simp at hd
  have hD := L.d0
  exact L.norm _ _ _ (by omega) (by omega) (h.more L hm hc hd.1 hd.2)
theorem good_next (L : Latt nb nf P D) {m : Int} {n : Nat} {l : List (List Cell)} (h : ∀ s ∈ l, Good P m n s) (hm : 0 ≤ m ∧ m ≤ 80) : ∀ x ∈ nextS nb nf l, Good P (m + D) (n + 1) x := by
  intro x hx
  unfold nextS at hx
  rcases (foldAdd_mem _ _ x).1 hx with hx | hx
  · obtain ⟨s, hs, hx⟩ := List.mem_flatMap.1 hx
    exact good_more L (h s hs) hm hx
  · simp at hx
theorem freeOf_len (s l : List Cell) : (freeOf s l).length ≤ l.length := List.length_filter_le _ _
theorem flat_len {α β : Type} (f : α → List β) (q : Nat) : ∀ l : List α, (∀ a ∈ l, (f a).length ≤ q) → (l.flatMap f).length ≤ l.length * q
  | [], _ => by simp
  | a :: r, h => by
    rw [List.flatMap_cons, List.length_append, List.length_cons, Nat.add_mul, Nat.one_mul]
    have h1 := h a List.mem_cons_self
    have h2 := flat_len f q r (fun b hb => h b (List.mem_cons_of_mem _ hb))
    omega
theorem besideR_len (L : Latt nb nf P D) (s : List Cell) : (besideR nb s).length ≤ s.length * 6 :=
  flat_len _ 6 s fun c _ => Nat.le_trans (freeOf_len _ _) (L.cnt c)
theorem besideL_len (L : Latt nb nf P D) (s : List Cell) : (besideL nb s).length ≤ s.length * 6 := by
  unfold besideL
  have h1 := compF_len (sortC (besideR nb s))
  rw [sortC_len] at h1
  exact Nat.le_trans h1 (besideR_len L s)
theorem grownL_len (L : Latt nb nf P D) (s : List Cell) : (grownL nb nf s).length ≤ s.length * 6 := by
  unfold grownL
  refine Nat.le_trans (tidyL_len _) ?_
  unfold grownR
  rw [List.length_map]
  exact besideL_len L s
theorem moreOf_len (L : Latt nb nf P D) (s : List Cell) : (moreOf nb nf s).length ≤ s.length * 6 :=
  flat_len _ 6 s fun c _ => by rw [List.length_map]; exact Nat.le_trans (freeOf_len _ _) (L.cnt c)
theorem nextS_len (L : Latt nb nf P D) {n : Nat} {l : List (List Cell)} (h : ∀ s ∈ l, s.length = n) : (nextS nb nf l).length ≤ l.length * (n * 6) := by
  unfold nextS
  have h1 := foldAdd_len (l.flatMap (moreOf nb nf)) []
  have h2 := flat_len (moreOf nb nf) (n * 6) l (fun s hs => by rw [← h s hs]; exact moreOf_len L s)
  rw [List.length_nil] at h1
  omega
theorem beside_ne (L : Latt nb nf P D) {m : Int} {n : Nat} {s : List Cell} (h : Good P m n s) (hm : 0 ≤ m ∧ m ≤ 80) : 0 < (besideR nb s).length := by
  have hp := h.pos
  have hl := h.len
  obtain ⟨c, r, rfl⟩ : ∃ c r, s = c :: r := by cases s with | nil => simp at hl; omega | cons c r => exact ⟨c, r, rfl⟩
  have hb := h.box c List.mem_cons_self
  obtain ⟨d, hd, hlt⟩ := L.low c (by omega)
  have hn : d ∉ c :: r := by
    intro hm'
    rcases List.mem_cons.1 hm' with rfl | hm'
    · unfold ltC at hlt; omega
    · have := (List.pairwise_cons.1 h.lt).1 d hm'
      unfold ltC at *; omega
  refine List.length_pos_of_mem (a := d) ?_
  unfold besideR freeOf
  refine List.mem_flatMap.2 ⟨c, List.mem_cons_self, ?_⟩
  simp only [List.mem_filter, hd, true_and]
  simpa using hn
theorem grow_eq (L : Latt nb nf P D) : ∀ (q : Nat) (m : Int) (n : Nat) (l : List (List Cell)), (∀ s ∈ l, Good P m n s) → 0 ≤ m → m + q * D ≤ 80 → growI nb nf q l = growS nb nf q l
  | 0, _, _, _, _, _, _ => rfl
  | q + 1, m, n, l, h, h0, h1 => by
    have hD := L.d0
    have e1 : ((q + 1 : Nat) : Int) * D = (q : Int) * D + D := by rw [Int.natCast_add, Int.add_mul]; simp
    have e2 : 0 ≤ (q : Int) * D := Int.mul_nonneg (by omega) hD.1
    rw [growI, growS, next_eq fun s hs => (h s hs).lt]
    exact grow_eq L q (m + D) (n + 1) _ (good_next L h (by omega)) (by omega) (by omega)
theorem grow_good (L : Latt nb nf P D) : ∀ (q : Nat) (m : Int) (n : Nat) (l : List (List Cell)), (∀ s ∈ l, Good P m n s) → 0 ≤ m → m + q * D ≤ 80 → ∀ x ∈ growS nb nf q l, Good P (m + q * D) (n + q) x
  | 0, m, n, l, h, _, _ => by simpa [growS] using h
  | q + 1, m, n, l, h, h0, h1 => by
    have hD := L.d0
    have e1 : ((q + 1 : Nat) : Int) * D = (q : Int) * D + D := by rw [Int.natCast_add, Int.add_mul]; simp
    have e2 : 0 ≤ (q : Int) * D := Int.mul_nonneg (by omega) hD.1
    intro x hx
    rw [growS] at hx
    have := grow_good L q (m + D) (n + 1) _ (good_next L h (by omega)) (by omega) (by omega) x hx
    rw [show m + D + (q : Int) * D = m + ((q + 1 : Nat) : Int) * D by omega, show n + 1 + q = n + (q + 1) by omega] at this
    exact this
end
theorem moveL_pre {P : Cell → Prop} {m : Int} {n : Nat} {s : List Cell} {x y : Int} (h : Pre P m n s) (hx : -3000 ≤ x ∧ x ≤ 3000) (hy : -3000 ≤ y ∧ y ≤ 3000) : moveL s x y = s.map fun c => ⟨c.f0 + x, c.f1 + y⟩ := by
  unfold moveL
  refine List.map_congr_left fun c hc => ?_
  have := h.box c hc
  rw [w64 (by omega) (by omega), w64 (by omega) (by omega)]
theorem good_shift {P : Cell → Prop} {m : Int} {n : Nat} {s : List Cell} {x y : Int} (h : Pre P m n s) (hx : -3000 ≤ x ∧ x ≤ 3000) (hy : -3000 ≤ y ∧ y ≤ 3000)
    (hb : ∀ c ∈ s, 0 ≤ c.f0 + x ∧ c.f0 + x ≤ 2 + m ∧ 0 ≤ c.f1 + y ∧ c.f1 + y ≤ 2 + m) (hp : ∀ c ∈ s, P c → P ⟨c.f0 + x, c.f1 + y⟩) : Good P m n (moveL s x y) := by
  rw [moveL_pre h hx hy]
  refine ⟨by rw [List.length_map, h.len], h.pos, ?_, fun c hc => ?_, fun c hc d hd => ?_, fun c hc => ?_⟩
  · rw [List.pairwise_map]
    exact h.lt.imp fun {a b} hab => by unfold ltC at *; simp only; omega
  · obtain ⟨e, he, rfl⟩ := List.mem_map.1 hc
    exact hb e he
  · obtain ⟨e, he, rfl⟩ := List.mem_map.1 hc
    obtain ⟨f, hf, rfl⟩ := List.mem_map.1 hd
    have := h.sp e he f hf
    simp only
    omega
  · obtain ⟨e, he, rfl⟩ := List.mem_map.1 hc
    exact hp e he (h.p e he)
end Go.Proofs.Ytibbjiehblpmfaa.L
end
section
namespace Go.Proofs.Ytibbjiehblpmfaa.L
open Go.RowKit Go.Proofs.YtibbjiehblpmfaaW.PrintWords Go.Proofs.YtibbjiehblpmfaaW.PrintLast Go.Proofs.YtibbjiehblpmfaaW.PrintMore Go.Proofs.Ytibbjiehblpmfaa.F
set_option linter.unusedVariables false
set_option linter.unusedSimpArgs false
def rot6 : Nat → Int × Int → Int × Int
  | 0, p => p
  | n + 1, p => rot6 n (wrap64 (-p.2), wrap64 (p.1 + p.2))
def latC (c : Cell) (t : Int) : Int × Int := rot6 (t % 6).toNat (if t ≥ 6 then (c.f1, c.f0) else (c.f0, c.f1))
def latD (t : Int) (c : Cell) : Cell := ⟨(latC c t).1, (latC c t).2⟩
theorem tmod6 {t : Int} (h : 0 ≤ t) : Int.tmod t 6 = ((t % 6).toNat : Int) := by
  rw [Int.tmod_eq_emod_of_nonneg h]
  omega
theorem specLat_l (n : Nat) (hn : n ≤ 1048576) : ∀ p : Int × Int, Ev (fun k => spec_l07Turn.l0 k (n : Int) p.1 p.2) (rot6 n p) := by
  induction n with
  | zero =>
    intro p
    refine Ev.succ ?_
    simp only [spec_l07Turn.l0]
    exact Ev.neg (by simp) (Ev.now _)
  | succ n ih =>
    intro p
    refine Ev.succ ?_
    simp only [spec_l07Turn.l0]
    have e1 : wrap64 (((n + 1 : Nat) : Int) - 1) = (n : Int) := by rw [w64 (by omega) (by omega)]; omega
    refine Ev.pos (by omega) ?_
    simp only [e1]
    exact ih (by omega) (wrap64 (-p.2), wrap64 (p.1 + p.2))
theorem specLat_ev (c : Cell) (t : Int) (h : 0 ≤ t) : Ev (fun k => spec_l07Turn.f k c.f0 c.f1 t) (latC c t) := by
  unfold spec_l07Turn.f latC
  have := specLat_l (t % 6).toNat (by omega)
  by_cases h4 : t ≥ 6
  · rw [if_pos h4]
    refine Ev.pos h4 (Ev.step (fun k => spec_l07Turn.j0.eq_2 _ _ _ _) ?_)
    simp only [tmod6 h]
    exact this (c.f1, c.f0)
  · rw [if_neg h4]
    refine Ev.neg h4 (Ev.step (fun k => spec_l07Turn.j0.eq_2 _ _ _ _) ?_)
    simp only [tmod6 h]
    exact this (c.f0, c.f1)
def latL (l : List Cell) (t : Int) : List Cell := sortC (l.map (latD t))
theorem latL_len (l : List Cell) (t : Int) : (latL l t).length = l.length := by unfold latL; rw [sortC_len]; simp
theorem implLat_l (m : Nat) (hm : m ≤ 1048576) (t : Int) (l s : List Cell) (len_ i_ : Int) {r : List Cell} (n : Nat) : ∀ (i : Nat) (p : Int × Int), i + n = m → s.length ≤ 1048576 →
    Ev (fun k => impl_latticeCells.l0 k t (s ++ [(⟨(rot6 n p).1, (rot6 n p).2⟩ : Cell)]) l len_ (wrap64 (i_ + 1))) r → Ev (fun k => impl_latticeCells.l1 k t s l len_ i_ (m : Int) (i : Int) p.1 p.2) r := by
  induction n with
  | zero =>
    intro i p hi hs hc
    refine Ev.succ ?_
    simp only [impl_latticeCells.l1]
    exact Ev.neg (by omega) (Ev.pos (by omega) hc)
  | succ n ih =>
    intro i p hi hs hc
    refine Ev.succ ?_
    simp only [impl_latticeCells.l1]
    have e1 : wrap64 ((i : Int) + 1) = ((i + 1 : Nat) : Int) := by rw [w64 (by omega) (by omega)]; omega
    refine Ev.pos (by omega) ?_
    simp only [e1]
    exact ih (i + 1) (wrap64 (-p.2), wrap64 (p.1 + p.2)) (by omega) hs hc
theorem implLattice_ev (l : List Cell) (t : Int) (ht : 0 ≤ t) (hl : l.length ≤ 1048576) (h0 : 0 < l.length) : Ev (fun k => impl_latticeCells.f k l t) (latL l t) := by
  have hs : small l := by unfold small; omega
  unfold impl_latticeCells.f latL
  refine Ev.pos (by omega) (Ev.pos (by omega) ?_)
  have := loop_list l (fun k i (s : List Cell) => impl_latticeCells.l0 k t s l (l.length : Int) i) (fun pre suf s => sortC (s ++ suf.map (latD t))) (fun pre s => s.length = pre.length) ?_ ?_ [] rfl
  · simpa using this
  · intro s hi
    have hi' : s.length = l.length := hi
    simp only [impl_latticeCells.l0, len_lt, if_false, implSorted_eq s (by omega) (by omega), Option.bind_some]
    exact Ev.of_eq (Ev.now _) (by simp)
  · intro pre c suf s hx hi ih
    have hp := pre_len hx
    simp only [impl_latticeCells.l0, pre_lt hx, pre_0, if_true, at_pre hx]
    have hc := implLat_l (t % 6).toNat (by omega) t l s (l.length : Int) (pre.length : Int) (r := sortC (s ++ (c :: suf).map (latD t))) (t % 6).toNat 0
    have hih := ih (s ++ [latD t c]) (by simp [hi])
    have e : s ++ [latD t c] ++ suf.map (latD t) = s ++ (c :: suf).map (latD t) := by simp
    simp only [e] at hih
    by_cases h6 : t ≥ 6
    · refine Ev.pos h6 (Ev.step (fun k => impl_latticeCells.j1.eq_2 _ _ _ _ _ _ _ _) ?_)
      simp only [tmod6 ht]
      refine hc (c.f1, c.f0) (by omega) (by omega) ?_
      rw [pre_w hx hs]
      have e2 : (⟨(rot6 (t % 6).toNat (c.f1, c.f0)).1, (rot6 (t % 6).toNat (c.f1, c.f0)).2⟩ : Cell) = latD t c := by unfold latD latC; rw [if_pos h6]
      rw [e2]
      exact hih
    · refine Ev.neg h6 (Ev.step (fun k => impl_latticeCells.j1.eq_2 _ _ _ _ _ _ _ _) ?_)
      simp only [tmod6 ht]
      refine hc (c.f0, c.f1) (by omega) (by omega) ?_
      rw [pre_w hx hs]
      have e2 : (⟨(rot6 (t % 6).toNat (c.f0, c.f1)).1, (rot6 (t % 6).toNat (c.f0, c.f1)).2⟩ : Cell) = latD t c := by unfold latD latC; rw [if_neg h6]
      rw [e2]
      exact hih
theorem specNormal1_ev (l : List Cell) (hl : l.length ≤ 1048576) (h0 : 0 < l.length) : Ev (fun k => spec_l07Normal.f k 1 l) (normalL l) := by
  unfold spec_l07Normal.f
  refine Ev.bind (specLeast_ev l (by unfold small; omega) h0) (Ev.pos rfl (Ev.bind (specMove_ev l _ _ hl) (Ev.now _)))
theorem specForm1_ev (l : List Cell) (t : Int) (ht : 0 ≤ t) (hl : l.length ≤ 1048576) (h0 : 0 < l.length) : Ev (fun k => spec_l07Form.f k 1 l t) (normalL (latL l t)) := by
  have hs : small l := by unfold small; omega
  unfold spec_l07Form.f latL
  have := loop_list l (fun k i (s : List Cell) => spec_l07Form.l0 k 1 l t s i) (fun pre suf s => normalL (sortC (s ++ suf.map (latD t)))) (fun pre s => s.length = pre.length) ?_ ?_ [] rfl
  · simpa using this
  · intro s hi
    have hi' : s.length = l.length := hi
    simp only [spec_l07Form.l0, len_lt, if_false]
    refine Ev.bind (specSort_ev s (by omega)) (Ev.bind (specNormal1_ev _ (by rw [sortC_len]; omega) (by rw [sortC_len]; omega)) (Ev.of_eq (Ev.now _) (by simp)))
  · intro pre c suf s hx hi ih
    have hp := pre_len hx
    simp only [spec_l07Form.l0, pre_lt hx, pre_0, if_true, at_pre hx, pre_w hx hs]
    refine Ev.bind (specLat_ev c t ht) (Ev.pos (by omega) (Ev.of_eq (ih (s ++ [latD t c]) (by simp [hi])) (by simp)))
theorem implHexForm_ev (l : List Cell) (t : Int) (ht : 0 ≤ t) (hl : l.length ≤ 1048576) (h0 : 0 < l.length) : Ev (fun k => impl_hexForm.f k l t) (normalL (latL l t)) := by
  unfold impl_hexForm.f
  exact Ev.bind (implLattice_ev l t ht hl h0) (Ev.bind (implNormal_ev _ (by rw [latL_len]; omega) (by rw [latL_len]; omega)) (Ev.now _))
theorem minS_mem : ∀ (r : List (List Cell)) (m : List Cell), minS m r ∈ m :: r
  | [], m => by simp [minS]
  | x :: r, m => by
    unfold minS
    have h := minS_mem r (if cmpS x m < 0 then x else m)
    rcases List.mem_cons.1 h with h | h
    · rw [h]
      split
      · simp
      · simp
    · exact List.mem_cons_of_mem _ (List.mem_cons_of_mem _ h)
def minA : List (List Cell) → List Cell
  | [] => []
  | c :: r => minS c r
theorem specLeastS_ev (c : List Cell) (r : List (List Cell)) (hs : small (c :: r)) (hx_ : ∀ x ∈ c :: r, small x) : Ev (fun k => spec_l07Least.f k (c :: r)) (minS c r) := by
  unfold spec_l07Least.f
  refine Ev.pos (by rw [List.length_cons]; omega) ?_
  have h1 : rd_L2 (c :: r) 0 = c := rfl
  rw [h1]
  refine loop_tail c r (fun k i (s : List Cell) => spec_l07Least.l0 k (c :: r) s i) (fun _ suf s => minS s suf) (fun _ s => True) ?_ ?_ c trivial
  · rintro s _
    simp only [spec_l07Least.l0, len_lt, if_false]
    exact Ev.now _
  · rintro pre d suf s hx _ _ ih
    simp only [spec_l07Least.l0, pre_lt hx, pre_0, if_true, at_preL2 hx, pre_w hx hs]
    refine Ev.bind (specCompare_ev d s (hx_ d (by rw [hx]; simp))) ?_
    unfold minS
    by_cases h : cmpS d s < 0
    · rw [if_pos h]; exact Ev.pos h (ih d trivial)
    · rw [if_neg h]; exact Ev.neg h (ih s trivial)
def hexG (l : List Cell) (t : Int) : List Cell := normalL (latL l t)
theorem hexG_len (l : List Cell) (t : Int) : (hexG l t).length = l.length := by unfold hexG; rw [normalL_len, latL_len]
def hexGOk (l : List Cell) : Nat → Int → Bool
  | 0, _ => true
  | n + 1, t => shapeB (hexG l t) && hexGOk l n (t + 1)
def hexGS (l : List Cell) : Nat → Int → List (List Cell)
  | 0, _ => []
  | n + 1, t => hexG l t :: hexGS l n (t + 1)
theorem hexGS_len (l : List Cell) : ∀ (n : Nat) (t : Int), (hexGS l n t).length = n
  | 0, _ => rfl
  | n + 1, t => by unfold hexGS; rw [List.length_cons, hexGS_len l n]
theorem hexGS_mem (l : List Cell) : ∀ (n : Nat) (t : Int), ∀ x ∈ hexGS l n t, x.length = l.length
  | 0, _, x, h => by simp [hexGS] at h
  | n + 1, t, x, h => by
    unfold hexGS at h
    rcases List.mem_cons.1 h with rfl | h
    · exact hexG_len l t
    · exact hexGS_mem l n _ x h
theorem specForms1_l (l : List Cell) (hl : l.length ≤ 1048576) (h0 : 0 < l.length) : ∀ (n : Nat) (t : Int) (acc : List (List Cell)) (b : Bool), 0 ≤ t → t + (n : Int) = 12 → acc.length + n ≤ 12 → Ev (fun k => spec_l07Forms.l0 k 1 l acc b t) (acc ++ hexGS l n t, b && hexGOk l n t)
  | 0, t, acc, b, h1, h2, h3 => by
    refine Ev.succ ?_
    simp only [spec_l07Forms.l0]
    exact Ev.neg (by omega) (Ev.of_eq (Ev.now _) (by simp [hexGS, hexGOk]))
  | n + 1, t, acc, b, h1, h2, h3 => by
    refine Ev.succ ?_
    simp only [spec_l07Forms.l0]
    have ew : wrap64 (t + 1) = t + 1 := w64 (by omega) (by omega)
    refine Ev.pos (by omega) (Ev.bind (specForm1_ev l t h1 hl h0) ?_)
    have hf : small (normalL (latL l t)) := by have := hexG_len l t; unfold hexG at this; unfold small; omega
    simp only [ew]
    cases b
    · refine Ev.neg (by simp) (Ev.pos (by omega) (Ev.of_eq (specForms1_l l hl h0 n (t + 1) (acc ++ [hexG l t]) false (by omega) (by omega) (by simp; omega)) ?_))
      simp [hexGS]
    · refine Ev.pos rfl (Ev.bind (specIsShape_ev _ hf) (Ev.pos (by omega) (Ev.of_eq (specForms1_l l hl h0 n (t + 1) (acc ++ [hexG l t]) _ (by omega) (by omega) (by simp; omega)) ?_)))
      simp [hexGS, hexGOk, hexG]
theorem implLeast1_l (l : List Cell) (hl : l.length ≤ 1048576) (h0 : 0 < l.length) : ∀ (n : Nat) (t : Int) (acc : List (List Cell)), 0 ≤ t → t + (n : Int) = 12 → acc.length + n = 12 → (∀ x ∈ acc, small x) → Ev (fun k => impl_leastForm__impl_hexForm.l0 k l acc t) (if hexGOk l n t = true then (minA (acc ++ hexGS l n t), true) else ([], false))
  | 0, t, acc, h1, h2, h3, h4 => by
    obtain ⟨c, r, rfl⟩ : ∃ c r, acc = c :: r := by cases acc with | nil => simp at h3 | cons c r => exact ⟨c, r, rfl⟩
    refine Ev.succ ?_
    simp only [impl_leastForm__impl_hexForm.l0]
    refine Ev.neg (by omega) (Ev.bind (implMin_ev c r (by unfold small; omega) h4) (Ev.of_eq (Ev.now _) ?_))
    simp [hexGOk, hexGS, minA]
  | n + 1, t, acc, h1, h2, h3, h4 => by
    have ew : wrap64 (t + 1) = t + 1 := w64 (by omega) (by omega)
    have hf : small (normalL (latL l t)) := by have := hexG_len l t; unfold hexG at this; unfold small; omega
    by_cases hs : shapeB (normalL (latL l t)) = true
    · have hm := implLeast1_l l hl h0 n (t + 1) (acc ++ [normalL (latL l t)]) (by omega) (by omega) (by simp; omega) (fun x hx => by
        rcases List.mem_append.1 hx with hx | hx
        · exact h4 x hx
        · simp at hx; exact hx ▸ hf)
      refine Ev.succ ?_
      simp only [impl_leastForm__impl_hexForm.l0]
      refine Ev.pos (by omega) (Ev.bind (implHexForm_ev l t h1 hl h0) (Ev.bind (implIsShape_ev _ hf) (Ev.pos hs (Ev.pos (by omega) ?_))))
      simp only [ew]
      refine Ev.of_eq hm ?_
      simp [hexGOk, hexGS, hexG, hs]
    · refine Ev.succ ?_
      simp only [impl_leastForm__impl_hexForm.l0]
      refine Ev.pos (by omega) (Ev.bind (implHexForm_ev l t h1 hl h0) (Ev.bind (implIsShape_ev _ hf) (Ev.neg hs (Ev.of_eq (Ev.now _) ?_))))
      simp [hexGOk, hexG, hs]
def hexGMin (l : List Cell) : List Cell := minS (hexG l 0) (hexGS l 11 1)
theorem hexGMin_len (l : List Cell) : (hexGMin l).length = l.length := by
  have h := minS_mem (hexGS l 11 1) (hexG l 0)
  rcases List.mem_cons.1 h with h | h
  · unfold hexGMin; rw [h, hexG_len]
  · exact hexGS_mem l 11 1 _ h
end Go.Proofs.Ytibbjiehblpmfaa.L
end
section
namespace Go.Proofs.Ytibbjiehblpmfaa.L
open Go.RowKit Go.Proofs.YtibbjiehblpmfaaW.PrintWords Go.Proofs.Ytibbjiehblpmfaa.F
set_option linter.unusedVariables false
def hexC (c : Cell) : List Cell := [⟨c.f0, wrap64 (c.f1 - 1)⟩, ⟨wrap64 (c.f0 + 1), wrap64 (c.f1 - 1)⟩, ⟨wrap64 (c.f0 - 1), c.f1⟩, ⟨wrap64 (c.f0 + 1), c.f1⟩, ⟨wrap64 (c.f0 - 1), wrap64 (c.f1 + 1)⟩, ⟨c.f0, wrap64 (c.f1 + 1)⟩]
theorem implHex_eq (c : Cell) : impl_hexAround.f c.f0 c.f1 = some (hexC c) := rfl
theorem specHex_eq (c : Cell) : spec_l07Around.f 1 c.f0 c.f1 = some (hexC c) := rfl
end Go.Proofs.Ytibbjiehblpmfaa.L
end
section
namespace Go.Proofs.Ytibbjiehblpmfaa.L
open Go.RowKit Go.Proofs.YtibbjiehblpmfaaW.PrintWords Go.Proofs.YtibbjiehblpmfaaW.PrintLast Go.Proofs.YtibbjiehblpmfaaW.PrintMore Go.Proofs.Ytibbjiehblpmfaa.F
set_option linter.unusedVariables false
set_option linter.unusedSimpArgs false
theorem implIndex_ev (l : List Cell) (c : Cell) (hs : small l) : Ev (fun k => impl_Cell_76.f k l c.f0 c.f1) (idxC l c) := by
  unfold impl_Cell_76.f
  refine loop_list l (fun k i (_ : Unit) => impl_Cell_76.l0 k l (l.length : Int) i c.f0 c.f1) (fun pre suf _ => idxF suf c (pre.length : Int)) (fun _ _ => True) ?_ ?_ () trivial
  · intro _ _
    simp only [impl_Cell_76.l0, len_lt, if_false]
    exact Ev.now _
  · intro pre d suf _ hx _ ih
    simp only [impl_Cell_76.l0, pre_lt hx, pre_0, if_true, at_pre hx, pre_w hx hs, idxF]
    have e : (c.f0 == d.f0 && c.f1 == d.f1) = sameC d c := by
      rw [Bool.eq_iff_iff]
      simp only [sameC, Bool.and_eq_true, beq_iff_eq, decide_eq_true_eq]
      constructor <;> (rintro ⟨h, h'⟩; exact ⟨h.symm, h'.symm⟩)
    rw [e]
    refine Ev.if_ (fun _ => Ev.now _) (fun _ => Ev.of_eq (ih () trivial) ?_)
    simp
theorem implContains_ev (l : List Cell) (c : Cell) (hs : small l) : Ev (fun k => impl_Cell_70.f k l c.f0 c.f1) (decide (idxC l c ≥ 0)) := by
  unfold impl_Cell_70.f
  exact Ev.bind (implIndex_ev l c hs) (Ev.now _)
theorem equalC_ev (a b : List Cell) (ha : small a) : Ev (fun k => impl_Cell_33.f k a b) (decide (a = b)) := by
  unfold impl_Cell_33.f
  by_cases hl : a.length = b.length
  · refine Ev.pos (by omega) ?_
    refine loop_list a (fun k i (_ : Unit) => impl_Cell_33.l0 k a b (a.length : Int) i) (fun pre suf _ => decide (suf = b.drop pre.length)) (fun _ _ => True) ?_ ?_ () trivial
    · intro _ _
      simp only [impl_Cell_33.l0, len_lt, if_false]
      refine Ev.of_eq (Ev.now _) ?_
      rw [hl, List.drop_length]
      simp
    · intro pre c suf _ hx _ ih
      have hp := pre_len hx
      have hpb : pre.length < b.length := by omega
      have hlt : ((pre.length : Int) < (b.length : Int)) = True := by simp; omega
      have eb : rd_T43 b (pre.length : Int) = b[pre.length] := by
        unfold rd_T43
        rw [List.getD_eq_getElem?_getD, Int.toNat_natCast, List.getElem?_eq_getElem hpb]
        rfl
      simp only [impl_Cell_33.l0, pre_lt hx, pre_0, if_true, hlt, at_pre hx, pre_w hx ha, eb]
      rw [List.drop_eq_getElem_cons hpb]
      by_cases he : c = b[pre.length]
      · refine Ev.neg (by rw [← he]; simp) (Ev.of_eq (ih () trivial) ?_)
        rw [List.length_append, List.length_singleton]
        generalize b.drop (pre.length + 1) = R
        rw [← he]
        simp only [List.cons.injEq, true_and]
      · refine Ev.pos ?_ (Ev.of_eq (Ev.now _) ?_)
        · refine Decidable.byContradiction fun h => he ?_
          generalize b[pre.length] = d at h
          obtain ⟨c0, c1⟩ := c
          obtain ⟨d0, d1⟩ := d
          simp at h
          simp [h]
        · generalize b.drop (pre.length + 1) = R
          simp only [List.cons.injEq, he, false_and, decide_false]
  · refine Ev.neg (by omega) (Ev.of_eq (Ev.now _) ?_)
    have : a ≠ b := fun e => hl (by rw [e])
    simp [this]
end Go.Proofs.Ytibbjiehblpmfaa.L
end
section
namespace Go.Proofs.Ytibbjiehblpmfaa.L
open Go.RowKit Go.Proofs.YtibbjiehblpmfaaW.PrintWords Go.Proofs.YtibbjiehblpmfaaW.PrintLast Go.Proofs.YtibbjiehblpmfaaW.PrintMore Go.Proofs.Ytibbjiehblpmfaa.F
set_option linter.unusedVariables false
set_option linter.unusedSimpArgs false
theorem hexLatt : Latt hexC normalL (fun _ => True) 1 where
  d0 := by omega
  near := by
    intro c hb _ d hd
    simp only [hexC, List.mem_cons, List.not_mem_nil, or_false] at hd
    have w (n : Int) (h0 : -1000 ≤ n) (h1 : n ≤ 1000) : wrap64 n = n := w64 (by omega) (by omega)
    rw [w (c.f0 + 1) (by omega) (by omega), w (c.f0 - 1) (by omega) (by omega), w (c.f1 + 1) (by omega) (by omega), w (c.f1 - 1) (by omega) (by omega)] at hd
    rcases hd with rfl | rfl | rfl | rfl | rfl | rfl <;> (simp only [and_true]; omega)
  norm := by
    intro s n m h0 h1 h
    have hne : s ≠ [] := by
      intro e
      have := h.len
      have := h.pos
      rw [e] at *
      simp at *
      omega
    obtain ⟨⟨e, he, ex⟩, ⟨f, hf, ey⟩⟩ := least_mem hne
    have be := h.box e he
    have bf := h.box f hf
    unfold normalL
    rw [w64 (by omega) (by omega), w64 (by omega) (by omega)]
    refine good_shift h (by omega) (by omega) (fun c hc => ?_) (fun _ _ _ => trivial)
    have h2 := least_le hc
    have h3 := h.sp c hc e he
    have h4 := h.sp c hc f hf
    omega
  cnt := fun c => by simp [hexC]
  low := by
    intro c hb
    refine ⟨⟨c.f0, wrap64 (c.f1 - 1)⟩, by simp [hexC], ?_⟩
    rw [w64 (by omega) (by omega)]
    unfold ltC
    simp only
    omega
theorem aroundH {c : Cell} (hb : -100 ≤ c.f0 ∧ c.f0 ≤ 100 ∧ -100 ≤ c.f1 ∧ c.f1 ≤ 100) (_ : (fun _ : Cell => True) c) : spec_l07Around.f 1 c.f0 c.f1 = some (hexC c) := specHex_eq c
theorem implFree_lH (s : List Cell) (hs : s.length ≤ 64) (nbl : List Cell) (hn : nbl.length ≤ 64) (len i : Int) {r : List Cell} : ∀ (suf pre out : List Cell), nbl = pre ++ suf → out.length + suf.length ≤ 1000000 → Ev (fun k => impl_beside__impl_hexAround.l0 k s (out ++ freeOf s suf) s len (wrap64 (i + 1))) r → Ev (fun k => impl_beside__impl_hexAround.l1 k s out s len i nbl (nbl.length : Int) (pre.length : Int)) r
  | [], pre, out, hx, hl, hc => by
    refine Ev.succ ?_
    rw [List.append_nil] at hx
    subst hx
    simp only [impl_beside__impl_hexAround.l1]
    refine Ev.neg (by omega) ?_
    simpa [freeOf] using hc
  | d :: suf, pre, out, hx, hl, hc => by
    refine Ev.succ ?_
    have hsm : small nbl := by unfold small; omega
    simp only [List.length_cons] at hl
    have hi (out' : List Cell) (ho : out'.length + suf.length ≤ 1000000) (hc' : Ev (fun k => impl_beside__impl_hexAround.l0 k s (out' ++ freeOf s suf) s len (wrap64 (i + 1))) r) := implFree_lH s hs nbl hn len i suf (pre ++ [d]) out' (by rw [hx]; simp) ho hc'
    simp only [List.length_append, List.length_singleton, Int.natCast_add] at hi
    simp only [impl_beside__impl_hexAround.l1, pre_lt hx, pre_0, if_true, at_pre hx, pre_w hx hsm]
    refine Ev.bind (implContains_ev s d (by unfold small; omega)) ?_
    by_cases hm : d ∈ s
    · refine Ev.pos (by simpa using (idxC_mem s d).2 hm) (hi out (by omega) ?_)
      simpa [freeOf, hm] using hc
    · refine Ev.neg (by simpa using fun h => hm ((idxC_mem s d).1 h)) (Ev.pos (by omega) (hi (out ++ [(⟨d.f0, d.f1⟩ : Cell)]) (by simp; omega) ?_))
      have : freeOf s (d :: suf) = d :: freeOf s suf := by simp [freeOf, hm]
      rw [this] at hc
      simpa using hc
theorem implBeside_evH (s : List Cell) (hs : s.length ≤ 64) (h0 : 0 < (besideR hexC s).length) : Ev (fun k => impl_beside__impl_hexAround.f k s) (besideL hexC s) := by
  have hsm : small s := by unfold small; omega
  unfold impl_beside__impl_hexAround.f
  refine loop_list s (fun k i (out : List Cell) => impl_beside__impl_hexAround.l0 k s out s (s.length : Int) i) (fun _ _ _ => besideL hexC s) (fun pre out => out = pre.flatMap fun c => freeOf s (hexC c)) ?_ ?_ [] rfl
  · rintro out rfl
    have hlen : (besideR hexC s).length ≤ s.length * 6 := besideR_len hexLatt s
    unfold besideR at hlen h0
    simp only [impl_beside__impl_hexAround.l0, len_lt, if_false]
    have e1 : impl_Cell_67__impl_compareCells.f (s.flatMap fun c => freeOf s (hexC c)) = some (sortC (s.flatMap fun c => freeOf s (hexC c))) := by
      unfold impl_Cell_67__impl_compareCells.f
      rw [if_pos ⟨h0, by omega⟩]
    have e2 : impl_Cell_71.f (sortC (s.flatMap fun c => freeOf s (hexC c))) = some (compF (sortC (s.flatMap fun c => freeOf s (hexC c)))) := by
      unfold impl_Cell_71.f
      rw [if_pos ⟨by rw [sortC_len]; exact h0, by rw [sortC_len]; omega⟩]
    exact Ev.bind0 e1 (Ev.bind0 e2 (Ev.now _))
  · rintro pre c suf out hx rfl ih
    simp only [impl_beside__impl_hexAround.l0, pre_lt hx, pre_0, if_true, at_pre hx]
    refine Ev.bind0 (implHex_eq c) ?_
    have hp := pre_len hx
    have ho : (pre.flatMap fun c => freeOf s (hexC c)).length ≤ pre.length * 6 := flat_len _ 6 pre fun c _ => Nat.le_trans (freeOf_len _ _) (hexLatt.cnt c)
    have hc6 := hexLatt.cnt c
    refine implFree_lH s hs (hexC c) (by omega) _ _ (hexC c) [] _ rfl (by omega) ?_
    rw [pre_w hx hsm]
    exact ih _ (by rw [List.flatMap_append]; simp)
theorem implGrown_evH {m : Int} {n : Nat} (s : List Cell) (h : Good (fun _ => True) m n s) (hm : 0 ≤ m ∧ m ≤ 80) (hn : n ≤ 60) : Ev (fun k => impl_grown__impl_hexAround_impl_normal.f k s) (grownL hexC normalL s) ∧ 0 < (grownL hexC normalL s).length := by
  have hl := h.len
  have hp := h.pos
  have h0 := beside_ne hexLatt h hm
  have hbl := besideL_len hexLatt s
  have hb0 : 0 < (besideL hexC s).length := by
    obtain ⟨d, hd⟩ := List.exists_mem_of_length_pos h0
    refine List.length_pos_of_mem (a := d) ?_
    unfold besideL
    rw [compF_mem, sortC_mem]
    exact hd
  have hbs : small (besideL hexC s) := by unfold small; omega
  have hg0 : 0 < (grownR hexC normalL s).length := by unfold grownR; rw [List.length_map]; exact hb0
  refine ⟨?_, ?_⟩
  · unfold impl_grown__impl_hexAround_impl_normal.f
    refine Ev.bind (implBeside_evH s (by omega) h0) ?_
    refine loop_list (besideL hexC s) (fun k i (acc : List (List Cell)) => impl_grown__impl_hexAround_impl_normal.l0 k s acc (besideL hexC s) ((besideL hexC s).length : Int) i) (fun _ _ _ => grownL hexC normalL s) (fun pre acc => acc = pre.map fun d => normalL (sortC (s ++ [d]))) ?_ ?_ [] rfl
    · rintro acc rfl
      simp only [impl_grown__impl_hexAround_impl_normal.l0, len_lt, if_false]
      have hgl : (grownR hexC normalL s).length ≤ 1000 := by unfold grownR; rw [List.length_map]; omega
      exact Ev.bind0 (implTidy_eq _ hg0 (by unfold grownR at hgl; omega)) (Ev.now _)
    · rintro pre d suf acc hx rfl ih
      have hpl := pre_len hx
      simp only [impl_grown__impl_hexAround_impl_normal.l0, pre_lt hx, pre_0, if_true, at_pre hx, pre_w hx hbs]
      have e1 : impl_Cell_63.f s = some s := by
        unfold impl_Cell_63.f
        rw [if_pos (by omega)]
      have e2 : impl_sorted.f (s ++ [(⟨d.f0, d.f1⟩ : Cell)]) = some (sortC (s ++ [(⟨d.f0, d.f1⟩ : Cell)])) := implSorted_eq _ (by simp) (by simp; omega)
      refine Ev.bind0 e1 (Ev.bind0 rfl (Ev.pos (by simp; omega) (Ev.bind0 e2 (Ev.bind (implNormal_ev _ (by rw [sortC_len]; simp; omega) (by rw [sortC_len]; simp)) (Ev.bind0 rfl (Ev.pos (by simp; omega) ?_))))))
      exact ih _ (by simp)
  · have h1 : 0 < (grownR hexC normalL s).length := hg0
    obtain ⟨x, hx⟩ := List.exists_mem_of_length_pos h1
    exact List.length_pos_of_mem (tidyL_mem.2 hx)
end Go.Proofs.Ytibbjiehblpmfaa.L
end
