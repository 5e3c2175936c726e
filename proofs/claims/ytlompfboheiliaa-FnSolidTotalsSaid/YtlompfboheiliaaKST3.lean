/- The row of FnSolidTotals, with what it needs: text 4 of 12. -/
import Derived.Test.YtlompfboheiliaaKST2
set_option maxHeartbeats 8000000
set_option maxRecDepth 100000
section
namespace Go.Proofs.Ytlompfboheiliaa.F
open Go.RowKit Go.Proofs.YtlompfboheiliaaW.PrintWords Go.Proofs.YtlompfboheiliaaW.PrintLast Go.Proofs.YtlompfboheiliaaW.PrintMore
attribute [local go_sem] max2_int min2_int max_two min_two max_three min_three max_four min_four
set_option linter.unusedVariables false
set_option linter.unusedSimpArgs false
theorem spec_l09Insert.calls (k : Nat) (P0_ : Nat → Prop) (A0 : Option Addr) (c0 : Nat) (l0 : List (List (S43))) (P1_ : Nat → Prop) (A1 : Option Addr) (c1 : Nat) (l1 : List (S43)) (r : List (List (S43))) (w : World) (hs0 : Kd.V (Kd.slice 43 k43) 40 w w.heap.size (fun k_ => P0_ k_) (.slice A0 l0.length c0) l0) (hs1 : Kd.V k43 43 w w.heap.size (fun k_ => P1_ k_) (.slice A1 l1.length c1) l1) (h : spec_l09Insert.f k l0 l1 = some r) :
  Calls Try.prog 28 #[.slice A0 l0.length c0, .slice A1 l1.length c1] w fun e w' => ∃ v0_ : Value, e = .returned (v0_) ∧ Kd.V (Kd.slice 43 k43) 40 w' w.heap.size (fun k_ => ((P0_ k_ ∨ P1_ k_) ∨ w.heap.size ≤ k_)) v0_ r ∧ Below w.heap.size w w' := by
 have HO0 := aM (show Kd.V (Kd.slice 43 k43) 40 w w.heap.size (fun k_ => ((P0_ k_ ∨ P1_ k_) ∨ w.heap.size ≤ k_)) (.slice A0 l0.length c0) l0 from Kd.V_mono hs0 (fun k_ hk => .inl (.inl hk)))
 have HO1 := aM (show Kd.V k43 43 w w.heap.size (fun k_ => ((P0_ k_ ∨ P1_ k_) ∨ w.heap.size ≤ k_)) (.slice A1 l1.length c1) l1 from Kd.V_mono hs1 (fun k_ hk => .inl (.inr hk)))
 have HB := aM (Below.refl w.heap.size w)
 have H : (spec_l09Insert.l0 k l0 l1 0) = some r := h
 clear h
 have H' := aM H
 clear H
 go_enter Try.func28, Try.ntmps28
 go_wp2
 go_loopg [5] k (fun kq v5 w' => ∃ (x5_1 : Int), v5 = .int .i64 x5_1 ∧ Aside0 (spec_l09Insert.l0 kq l0 l1 x5_1 = some r) ∧ Aside0 (kq ≤ k) ∧ Aside0 (Kd.V (Kd.slice 43 k43) 40 w' w.heap.size (fun k_ => ((P0_ k_ ∨ P1_ k_) ∨ w.heap.size ≤ k_)) (.slice A0 l0.length c0) l0) ∧ Aside0 (Kd.V k43 43 w' w.heap.size (fun k_ => ((P0_ k_ ∨ P1_ k_) ∨ w.heap.size ≤ k_)) (.slice A1 l1.length c1) l1) ∧ Aside0 (Below w.heap.size w w'))
 case atStart => exact ⟨(0), zr, H', ⟨Nat.le_refl _⟩, ⟨mV_ HO0.out⟩, ⟨mV_ HO1.out⟩, ⟨zb⟩⟩
 case round =>
  clear H'
  try clear c1
  try clear c2
  try clear p2
  obtain ⟨x5_1, rfl, HA, HK1, HO_0, HO_1, HB⟩ := hrel
  cases gk with
  | zero => exact absurd HA.out (by simp [spec_l09Insert.l0])
  | succ k1 =>
   have H := HA.out
   clear HA
   simp only [spec_l09Insert.l0] at H
   by_cases c3 : x5_1 < (l0.length : Int)
   rotate_left
   ·rw [if_neg c3] at H
    have c3b0 : decide (x5_1 < (l0.length : Int)) = false := decide_eq_false c3
    clear c3
    obtain ⟨y146, hy146⟩ : ∃ y_ : List (List (S43)), y_ = (([] : List (List (S43)))) := ⟨_, rfl⟩
    replace H : (if 0 ≤ x5_1 then (if x5_1 ≤ (l0.length : Int) then ((some (l0.take (x5_1 : Int).toNat : List (List (S43)))).bind fun y149 => (if y146.length + y149.length < 5864062014805 then ((some (y146 ++ y149 : List (List (S43)))).bind fun y154 => ((some (([l1] : List (List (S43))) : List (List (S43)))).bind fun y157 => (if y154.length + y157.length < 5864062014805 then ((some (y154 ++ y157 : List (List (S43)))).bind fun y160 => ((some (l0.drop (x5_1 : Int).toNat : List (List (S43)))).bind fun y163 => (if y160.length + y163.length < 5864062014805 then (some (y160 ++ y163)) else (none)))) else (none)))) else (none))) else (none)) else (none)) = some r := zy H hy146
    have Ny146 := aM hy146
    clear hy146
    by_cases c33 : 0 ≤ x5_1
    rotate_left
    ·rw [if_neg c33] at H
     exact absurd H (by simp)
    rw [if_pos c33] at H
    have c33b0 := eq_true c33
    have c33b1 : decide (0 ≤ x5_1) = true := decide_eq_true c33
    clear c33
    by_cases c34 : x5_1 ≤ (l0.length : Int)
    rotate_left
    ·rw [if_neg c34] at H
     exact absurd H (by simp)
    rw [if_pos c34] at H
    have c34b0 := eq_true c34
    have c34b1 : decide (x5_1 ≤ (l0.length : Int)) = true := decide_eq_true c34
    clear c34
    obtain ⟨y149, hy149⟩ : ∃ y_ : List (List (S43)), y_ = (l0.take (x5_1 : Int).toNat) := ⟨_, rfl⟩
    replace H : (if y146.length + y149.length < 5864062014805 then ((some (y146 ++ y149 : List (List (S43)))).bind fun y154 => ((some (([l1] : List (List (S43))) : List (List (S43)))).bind fun y157 => (if y154.length + y157.length < 5864062014805 then ((some (y154 ++ y157 : List (List (S43)))).bind fun y160 => ((some (l0.drop (x5_1 : Int).toNat : List (List (S43)))).bind fun y163 => (if y160.length + y163.length < 5864062014805 then (some (y160 ++ y163)) else (none)))) else (none)))) else (none)) = some r := zy H hy149
    have Ny149 := aM hy149
    clear hy149
    by_cases c35 : y146.length + y149.length < 5864062014805
    rotate_left
    ·rw [if_neg c35] at H
     exact absurd H (by simp)
    rw [if_pos c35] at H
    have LMc35 := aM c35
    clear c35
    obtain ⟨y154, hy154⟩ : ∃ y_ : List (List (S43)), y_ = (y146 ++ y149) := ⟨_, rfl⟩
    replace H : ((some (([l1] : List (List (S43))) : List (List (S43)))).bind fun y157 => (if y154.length + y157.length < 5864062014805 then ((some (y154 ++ y157 : List (List (S43)))).bind fun y160 => ((some (l0.drop (x5_1 : Int).toNat : List (List (S43)))).bind fun y163 => (if y160.length + y163.length < 5864062014805 then (some (y160 ++ y163)) else (none)))) else (none))) = some r := zy H hy154
    have Ny154 := aM hy154
    clear hy154
    obtain ⟨y157, hy157⟩ : ∃ y_ : List (List (S43)), y_ = (([l1] : List (List (S43)))) := ⟨_, rfl⟩
    replace H : (if y154.length + y157.length < 5864062014805 then ((some (y154 ++ y157 : List (List (S43)))).bind fun y160 => ((some (l0.drop (x5_1 : Int).toNat : List (List (S43)))).bind fun y163 => (if y160.length + y163.length < 5864062014805 then (some (y160 ++ y163)) else (none)))) else (none)) = some r := zy H hy157
    have Ny157 := aM hy157
    clear hy157
    by_cases c36 : y154.length + y157.length < 5864062014805
    rotate_left
    ·rw [if_neg c36] at H
     exact absurd H (by simp)
    rw [if_pos c36] at H
    have LMc36 := aM c36
    clear c36
    obtain ⟨y160, hy160⟩ : ∃ y_ : List (List (S43)), y_ = (y154 ++ y157) := ⟨_, rfl⟩
    replace H : ((some (l0.drop (x5_1 : Int).toNat : List (List (S43)))).bind fun y163 => (if y160.length + y163.length < 5864062014805 then (some (y160 ++ y163)) else (none))) = some r := zy H hy160
    have Ny160 := aM hy160
    clear hy160
    have c37b0 := eq_true (of_decide_eq_true za : 0 ≤ x5_1)
    have c38b0 := eq_true (of_decide_eq_true za : x5_1 ≤ (l0.length : Int))
    obtain ⟨y163, hy163⟩ : ∃ y_ : List (List (S43)), y_ = (l0.drop (x5_1 : Int).toNat) := ⟨_, rfl⟩
    replace H : (if y160.length + y163.length < 5864062014805 then (some (y160 ++ y163)) else (none)) = some r := zy H hy163
    have Ny163 := aM hy163
    clear hy163
    by_cases c39 : y160.length + y163.length < 5864062014805
    rotate_left
    ·rw [if_neg c39] at H
     exact absurd H (by simp)
    rw [if_pos c39] at H
    have LMc39 := aM c39
    clear c39
    obtain ⟨y168, hy168⟩ : ∃ y_ : List (List (S43)), y_ = (y160 ++ y163) := ⟨_, rfl⟩
    replace H : (some y168) = some r := zy H hy168
    have Ny168 := aM hy168
    clear hy168
    obtain rfl := Option.some.inj H
    try go_wp2
    have n0_ := aM (Kd.V_drew HO_0.out)
    have n1_ := aM (Kd.V_drew HO_1.out)
    have n2_ := aM (below_drew1 HB.out)
    clear HO_0
    clear HO_1
    clear HB
    have HO_0 := n0_
    have HO_1 := n1_
    have HB := n2_
    clear n0_ n1_ n2_
    have q41 : (x5_1 : Int) ≤ ((l0.length : Int) : Int) := of_decide_eq_true za
    obtain ⟨i041, hi041, _, hsz41, _⟩ := info_parts info40
    have hroom41 : l0.length ≤ c0 := (Kd.V_reads' HO_0.out).2.1
    have hC41 : Kd.F (Kd.slice 43 k43) _ _ A0 l0.length l0 := (Kd.V_at (base := w.heap.size) HO_0.out).2.2
    have hcut41 := cut_to (P := Try.prog) 28 40 .i64 Try.underlying28 hi041 A0 l0.length c0 x5_1 (of_decide_eq_true za) q41 hroom41
    have hr41 := Kd.F_take (m := (x5_1 : Int).toNat) hC41 (by omega)
    have hy41 : y149.length = (x5_1 : Int).toNat := (by rw [Ny149.out, List.length_take]; omega)
    rw [← Ny149.out] at hr41
    rw [← hy41] at hcut41
    have HO153 := aM (show Kd.V (Kd.slice 43 k43) 40 _ w.heap.size _ (.slice A0 y149.length c0) y149 from Kd.V_mk (by omega) hr41)
    have HC153 := aM (show y149.length ≤ c0 from by omega)
    clear hr41 hC41 hroom41 hi041 hsz41
    have KY41 := aM hy41
    clear hy41
    replace q41 := eq_true q41
    have q42 : (x5_1 : Int) ≤ ((l0.length : Int) : Int) := of_decide_eq_true za
    obtain ⟨i042, hi042, _, hsz42, _⟩ := info_parts info40
    have hroom42 : l0.length ≤ c0 := (Kd.V_reads' HO_0.out).2.1
    have hC42 : Kd.F (Kd.slice 43 k43) _ _ A0 l0.length l0 := (Kd.V_at (base := w.heap.size) HO_0.out).2.2
    have q042 : (0 : Int) ≤ (x5_1 : Int) := of_decide_eq_true za
    have hcut42 := cut_from (P := Try.prog) 28 40 .i64 Try.underlying28 hi042 1 hsz42 A0 l0.length c0 x5_1 q042 q42
    have hr42 := Kd.F_cut (m := (x5_1 : Int).toNat) (c := c0) hC42 (by omega) hroom42
    obtain ⟨A42, hA42⟩ : ∃ A1, A1 = (if c0 = (x5_1 : Int).toNat then A0 else (A0 : Option Addr).map (·.add ((x5_1 : Int).toNat * 1))) := ⟨_, rfl⟩
    obtain ⟨c42, hc42⟩ : ∃ c1, c1 = c0 - (x5_1 : Int).toNat := ⟨_, rfl⟩
    have hy42 : y163.length = l0.length - (x5_1 : Int).toNat := (by rw [Ny163.out, List.length_drop] <;> omega)
    rw [show (l0).drop (x5_1 : Int).toNat = y163 from Ny163.out.symm] at hr42
    replace hr42 : Kd.F (Kd.slice 43 k43) _ _ A42 y163.length y163 := (by rw [hA42]; exact hr42)
    rw [← hy42, ← hA42, ← hc42] at hcut42
    have HO167 := aM (show Kd.V (Kd.slice 43 k43) 40 _ w.heap.size _ (.slice A42 y163.length c42) y163 from Kd.V_mk (by rw [hy42, hc42]; exact Nat.sub_le_sub_right hroom42 _) hr42)
    have HC167 := aM (show y163.length ≤ c42 from by rw [hy42, hc42]; exact Nat.sub_le_sub_right hroom42 _)
    clear hr42 hC42 hroom42 hi042 hsz42 hc42
    have KY42 := aM hy42
    have KA42 := aM hA42
    clear hy42 hA42
    replace q42 := eq_true q42
    refine start_ (n := 13) (S := fun w' => True) (ds := []) zA5 (by kernel_rfl) rfl rfl trivial (fun hHeld => ?_); refine with_tabW spec_l09Insert.tab6 spec_l09Insert.bits6 (fun HT_ HW_ => ?_)
    generalize wr.drew = w40 at HO_0 HO_1 HB HO153 HO167 hHeld ⊢
    refine zp 1 (some 36) ?_ zA6 rfl rfl (Or.inl ⟨by rfl, ?_⟩) ?_ ?_ ?_
    rotate_left
    ·intro w'
     go_simp
     with_reducible rfl
    rotate_left
    ·simp only [Act.put, xA, xB, xC, i64_w, i32_w]
     rfl
    refine zp 2 (some 37) ?_ zA7 rfl rfl (Or.inl ⟨by rfl, ?_⟩) ?_ ?_ ?_
    rotate_left
    ·intro w'
     go_simp
     with_reducible rfl
    rotate_left
    ·simp only [Act.put, xA, xB, xC, i64_w, i32_w]
     rfl
    refine zp 3 (some 38) ?_ zA8 rfl rfl (Or.inl ⟨by rfl, ?_⟩) ?_ ?_ ?_
    rotate_left
    ·intro w'
     go_simp
     with_reducible rfl
    rotate_left
    ·simp only [Act.put, xA, xB, xC, i64_w, i32_w]
     rfl
    refine zp 5 (some 40) ?_ zA9 rfl rfl (Or.inl ⟨by rfl, ?_⟩) ?_ ?_ ?_
    rotate_left
    ·intro w'
     go_simp
     with_reducible rfl
    rotate_left
    ·simp only [Act.put, xA, xB, xC, i64_w, i32_w]
     rfl
    refine zp 8 (some 43) ?_ zA10 rfl rfl (Or.inl ⟨by rfl, ?_⟩) ?_ ?_ ?_
    rotate_left
    ·intro w'
     go_simp
     with_reducible rfl
    rotate_left
    ·simp only [Act.put, xA, xB, xC, i64_w, i32_w]
     rfl
    refine zp 9 (some 44) ?_ zA11 rfl rfl (Or.inl ⟨by rfl, ?_⟩) ?_ ?_ ?_
    rotate_left
    ·intro w'
     go_simp
     with_reducible rfl
    rotate_left
    ·simp only [Act.put, xA, xB, xC, i64_w, i32_w]
     rfl
    refine zp 10 (some 45) ?_ zA12 rfl rfl (Or.inl ⟨by rfl, ?_⟩) ?_ ?_ ?_
    rotate_left
    ·intro w'
     go_simp
     with_reducible rfl
    rotate_left
    ·simp only [Act.put, xA, xB, xC, i64_w, i32_w]
     rfl
    refine join_ (σ := Value × Value × Value) 3 zA13 (fun s_ => [(35, s_.1), (39, s_.2.1), (41, s_.2.2)]) (fun s_ w' => (Kd.V (Kd.slice 43 k43) 40 w' w.heap.size (fun k_ => ((P0_ k_ ∨ P1_ k_) ∨ w.heap.size ≤ k_) ∧ some k_ ≠ (s_.2.1 : Value).ownBlock ∧ some k_ ≠ (s_.2.2 : Value).ownBlock) (.slice A0 y149.length c0) y149) ∧ (Kd.N (Kd.slice 43 k43) 40 w' w.heap.size (fun k_ => ((P0_ k_ ∨ P1_ k_) ∨ w.heap.size ≤ k_) ∧ some k_ ≠ (s_.2.2 : Value).ownBlock) s_.2.1 y154) ∧ (Kd.N (Kd.slice 43 k43) 40 w' w.heap.size (fun k_ => ((P0_ k_ ∨ P1_ k_) ∨ w.heap.size ≤ k_) ∧ some k_ ≠ (s_.2.1 : Value).ownBlock) s_.2.2 y157) ∧ (Kd.V (Kd.slice 43 k43) 40 w' w.heap.size (fun k_ => ((P0_ k_ ∨ P1_ k_) ∨ w.heap.size ≤ k_) ∧ some k_ ≠ (s_.2.1 : Value).ownBlock ∧ some k_ ≠ (s_.2.2 : Value).ownBlock) (.slice A42 y163.length c42) y163) ∧ (Kd.V (Kd.slice 43 k43) 40 w' w.heap.size (fun k_ => ((P0_ k_ ∨ P1_ k_) ∨ w.heap.size ≤ k_) ∧ some k_ ≠ (s_.2.1 : Value).ownBlock ∧ some k_ ≠ (s_.2.2 : Value).ownBlock) (.slice A0 l0.length c0) l0) ∧ (Kd.V k43 43 w' w.heap.size (fun k_ => ((P0_ k_ ∨ P1_ k_) ∨ w.heap.size ≤ k_) ∧ some k_ ≠ (s_.2.1 : Value).ownBlock ∧ some k_ ≠ (s_.2.2 : Value).ownBlock) (.slice A1 l1.length c1) l1) ∧ (Below w.heap.size w w')) ?_ ?_
    rotate_left
    ·intro hCont
     refine two_ (i := 0) (j := 6) (Ni := some 35) (Nj := some 41) zA14 zA15 rfl rfl rfl rfl (two_of HT_.out (by kernel_rfl)) (by decide) (by decide) (fun K hK => ?_) (fun K hK => ?_)
     ·skip
      refine Kd.N_lit_step (Kd.slice 43 k43) _ 40 ?hg (N' := 35) ?hd (xs := ([] : List (List (S43)))) (inner := []) (ok := (fun k_ => ((P0_ k_ ∨ P1_ k_) ∨ w.heap.size ≤ k_))) (okp := (fun k_ => ((P0_ k_ ∨ P1_ k_) ∨ w.heap.size ≤ k_))) ?hr ?hp (fun _ hk => hk) ((show ∀ k_, w40.heap.size ≤ k_ → (fun k_ => ((P0_ k_ ∨ P1_ k_) ∨ w.heap.size ≤ k_)) k_ from fun k_ hk => (.inr (Nat.le_trans (below_size zb) hk))) _ (Nat.le_refl _)) (Below.refl _ _) (Nat.le_refl _) (by simp) ?_; (case hd => rfl); (case hg => rfl); (case hr => first | (go_simp; done) | (go_simp; rfl)); (case hp => exact (Reps.none _ _))
      intro v147 w43 ho44 hb hg_ hnew_
      clear hg_ hnew_
      (first | rw [← Ny146.out] at ho44 | (simp only [Int.reduceToNat] at ho44; rw [← Ny146.out] at ho44))
      have n0_ := aM (Kd.V_elder' (mV_ HO_0.out) (by first | exact Kd.N_base ho44 | exact Kd.S_base ho44 | exact Kd.R_base ho44) hb)
      have n1_ := aM (Kd.V_elder' (mV_ HO_1.out) (by first | exact Kd.N_base ho44 | exact Kd.S_base ho44 | exact Kd.R_base ho44) hb)
      have n2_ := aM (Kd.V_elder' (mV_ HO153.out) (by first | exact Kd.N_base ho44 | exact Kd.S_base ho44 | exact Kd.R_base ho44) hb)
      have n3_ := aM (Kd.V_elder' (mV_ HO167.out) (by first | exact Kd.N_base ho44 | exact Kd.S_base ho44 | exact Kd.R_base ho44) hb)
      have n4_ := aM (Kd.N_lower ho44 (below_size zb))
      have n5_ := aM (below_step zb hb)
      clear HO_0
      clear HO_1
      clear HO153
      clear HO167
      clear HB
      have HO_0 := n0_
      have HO_1 := n1_
      have HO153 := n2_
      have HO167 := n3_
      have HO148 := n4_
      have HB := n5_
      clear n0_ n1_ n2_ n3_ n4_ n5_
      clear hb ho44
      refine hK.out _ _ trivial (fun hHeld => ?_)
      clear hK K
      refine norm_ (a' := ?_) ?_ ?_
      rotate_left
      ·show Act.put _ (some 35) _ = _
       simp only [Act.put, xA, xB, xC, i64_w, i32_w]
       rfl
      refine two_ (i := 4) (j := 6) (Ni := some 39) (Nj := some 41) zA16 zA17 rfl rfl rfl rfl (two_of HT_.out (by kernel_rfl)) (by decide) (by decide) (fun K hK => ?_) (fun K hK => ?_)
      ·skip
       refine Kd.N_append_rows_step (Kd.slice 43 k43) (w0 := w) w.heap.size (by rfl) (.tmp 35) (.tmp 38) 28 40 (.slice none 0 0) 24 rfl Try.underlying28 info40 rfl (by decide) (by omega) v147 y146 y149 _ _ _ (fun k_ => ((P0_ k_ ∨ P1_ k_) ∨ w.heap.size ≤ k_)) (fun k_ => ((fun k_ => ((P0_ k_ ∨ P1_ k_) ∨ w.heap.size ≤ k_))) k_ ∧ some k_ ≠ (v147 : Value).ownBlock) rfl rfl ?aO ?aR (fun _ hk => hk) ?aF ?aB ?aS ?aL ?_
       (case aR => exact (by skip; exact Kd.V_F (Kd.V_mono (ok' := (fun k_ => ((fun k_ => ((P0_ k_ ∨ P1_ k_) ∨ w.heap.size ≤ k_))) k_ ∧ some k_ ≠ (v147 : Value).ownBlock)) (HO153.out) (fun k_ hk => ⟨hk.1, hk.2⟩))))
       (case aB => exact zb)
       (case aF => exact (fun k_ hk => (.inr (Nat.le_trans (below_size zb) hk))))
       (case aO => exact (mN_ HO148.out))
       (case aS => exact (below_size zb))
       (case aL => have := LMc35.out; omega)
       intro v155 w45 ho hb hg hat
       rw [← Ny154.out] at ho
       have n0_ := aM (Kd.V_afterv (ok := (fun k_ => ((P0_ k_ ∨ P1_ k_) ∨ w.heap.size ≤ k_))) (mV_ HO_0.out) hg hat)
       have n1_ := aM (Kd.V_afterv (ok := (fun k_ => ((P0_ k_ ∨ P1_ k_) ∨ w.heap.size ≤ k_))) (mV_ HO_1.out) hg hat)
       have n2_ := aM (Kd.V_afterv (ok := (fun k_ => ((P0_ k_ ∨ P1_ k_) ∨ w.heap.size ≤ k_))) (mV_ HO153.out) hg hat)
       have n3_ := aM (Kd.V_afterv (ok := (fun k_ => ((P0_ k_ ∨ P1_ k_) ∨ w.heap.size ≤ k_))) (mV_ HO167.out) hg hat)
       have n4_ := aM (hb)
       have n5_ := aM (ho)
       clear HO_0
       clear HO_1
       clear HO153
       clear HO167
       clear HB
       clear HO148
       have HO_0 := n0_
       have HO_1 := n1_
       have HO153 := n2_
       have HO167 := n3_
       have HB := n4_
       have HO156 := n5_
       clear n0_ n1_ n2_ n3_ n4_ n5_
       clear ho hb hg hat
       refine hK.out _ _ trivial (fun hHeld => ?_)
       clear hK K
       refine norm_ (a' := ?_) ?_ ?_
       rotate_left
       ·show Act.put _ (some 39) _ = _
        simp only [Act.put, xA, xB, xC, i64_w, i32_w]
        rfl
       refine one_ (i := 6) (N := some 41) zA13 rfl rfl (one_of HT_.out (by kernel_rfl)) (by decide) (fun K hK => ?_)
       refine Kd.N_lit_step (Kd.slice 43 k43) _ 40 ?hg (N' := 41) ?hd (xs := ([l1] : List (List (S43)))) (inner := [.slice A1 l1.length c1]) (ok := (fun k_ => ((P0_ k_ ∨ P1_ k_) ∨ w.heap.size ≤ k_) ∧ some k_ ≠ (v155 : Value).ownBlock)) (okp := (fun k_ => ((P0_ k_ ∨ P1_ k_) ∨ w.heap.size ≤ k_) ∧ some k_ ≠ (v155 : Value).ownBlock)) ?hr ?hp (fun _ hk => hk) ((show ∀ k_, w45.heap.size ≤ k_ → (fun k_ => ((P0_ k_ ∨ P1_ k_) ∨ w.heap.size ≤ k_) ∧ some k_ ≠ (v155 : Value).ownBlock) k_ from fun k_ hk => ⟨(.inr (Nat.le_trans (below_size zb) hk)), Kd.fresh' (Kd.N_lt (mN_ HO156.out)) k_ hk⟩) _ (Nat.le_refl _)) (Below.refl _ _) (Nat.le_refl _) (by simp) ?_; (case hd => rfl); (case hg => rfl); (case hr => first | (go_simp; done) | (go_simp; rfl)); (case hp => exact (Reps.one (show Kd.FK (Kd.slice 43 k43) _ _ l1 [.slice A1 l1.length c1] from (Kd.FK_slice_mk (Kd.V_reads' (Kd.V_mono (ok' := (fun k_ => ((P0_ k_ ∨ P1_ k_) ∨ w.heap.size ≤ k_) ∧ some k_ ≠ (v155 : Value).ownBlock)) (HO_1.out) (fun k_ hk => ⟨hk.1, hk.2⟩))).2.1 (Kd.V_F (Kd.V_mono (ok' := (fun k_ => ((P0_ k_ ∨ P1_ k_) ∨ w.heap.size ≤ k_) ∧ some k_ ≠ (v155 : Value).ownBlock)) (HO_1.out) (fun k_ hk => ⟨hk.1, hk.2⟩))))) (Reps.none _ _)))
       intro v158 w46 ho47 hb hg_ hnew_
       clear hg_ hnew_
       (first | rw [← Ny157.out] at ho47 | (simp only [Int.reduceToNat] at ho47; rw [← Ny157.out] at ho47))
       have n0_ := aM (Kd.V_elder' (mV_ HO_0.out) (by first | exact Kd.N_base ho47 | exact Kd.S_base ho47 | exact Kd.R_base ho47) hb)
       have n1_ := aM (Kd.V_elder' (mV_ HO_1.out) (by first | exact Kd.N_base ho47 | exact Kd.S_base ho47 | exact Kd.R_base ho47) hb)
       have n2_ := aM (Kd.V_elder' (mV_ HO153.out) (by first | exact Kd.N_base ho47 | exact Kd.S_base ho47 | exact Kd.R_base ho47) hb)
       have n3_ := aM (Kd.V_elder' (mV_ HO167.out) (by first | exact Kd.N_base ho47 | exact Kd.S_base ho47 | exact Kd.R_base ho47) hb)
       have n4_ := aM (Kd.N_elder' (mN_ HO156.out) (by first | exact Kd.N_base ho47 | exact Kd.S_base ho47 | exact Kd.R_base ho47) hb)
       have n5_ := aM (Kd.N_lower ho47 (below_size zb))
       have n6_ := aM (below_step zb hb)
       clear HO_0
       clear HO_1
       clear HO153
       clear HO167
       clear HO156
       clear HB
       have HO_0 := n0_
       have HO_1 := n1_
       have HO153 := n2_
       have HO167 := n3_
       have HO156 := n4_
       have HO159 := n5_
       have HB := n6_
       clear n0_ n1_ n2_ n3_ n4_ n5_ n6_
       clear hb ho47
       refine hK.out _ _ trivial (fun hHeld => ?_)
       clear hK K
       refine norm_ (a' := ?_) ?_ ?_
       rotate_left
       ·show Act.put _ (some 41) _ = _
        simp only [Act.put, xA, xB, xC, i64_w, i32_w]
        rfl
       exact norm_ (by simp only [putAll, Act.put, xA, xB, xC]) (hCont (v147, v155, v158) _ ⟨(zd0 HO153.out), (mN_ HO156.out), (mN_ HO159.out), (zd0 HO167.out), (zd0 HO_0.out), (zd0 HO_1.out), zb⟩)
      ·skip
       refine Kd.N_lit_step (Kd.slice 43 k43) _ 40 ?hg (N' := 41) ?hd (xs := ([l1] : List (List (S43)))) (inner := [.slice A1 l1.length c1]) (ok := (fun k_ => ((P0_ k_ ∨ P1_ k_) ∨ w.heap.size ≤ k_) ∧ some k_ ≠ (v147 : Value).ownBlock)) (okp := (fun k_ => ((P0_ k_ ∨ P1_ k_) ∨ w.heap.size ≤ k_) ∧ some k_ ≠ (v147 : Value).ownBlock)) ?hr ?hp (fun _ hk => hk) ((show ∀ k_, w43.heap.size ≤ k_ → (fun k_ => ((P0_ k_ ∨ P1_ k_) ∨ w.heap.size ≤ k_) ∧ some k_ ≠ (v147 : Value).ownBlock) k_ from fun k_ hk => ⟨(.inr (Nat.le_trans (below_size zb) hk)), Kd.fresh' (Kd.N_lt (mN_ HO148.out)) k_ hk⟩) _ (Nat.le_refl _)) (Below.refl _ _) (Nat.le_refl _) (by simp) ?_; (case hd => rfl); (case hg => rfl); (case hr => first | (go_simp; done) | (go_simp; rfl)); (case hp => exact (Reps.one (show Kd.FK (Kd.slice 43 k43) _ _ l1 [.slice A1 l1.length c1] from (Kd.FK_slice_mk (Kd.V_reads' (Kd.V_mono (ok' := (fun k_ => ((P0_ k_ ∨ P1_ k_) ∨ w.heap.size ≤ k_) ∧ some k_ ≠ (v147 : Value).ownBlock)) (HO_1.out) (fun k_ hk => ⟨hk.1, hk.2⟩))).2.1 (Kd.V_F (Kd.V_mono (ok' := (fun k_ => ((P0_ k_ ∨ P1_ k_) ∨ w.heap.size ≤ k_) ∧ some k_ ≠ (v147 : Value).ownBlock)) (HO_1.out) (fun k_ hk => ⟨hk.1, hk.2⟩))))) (Reps.none _ _)))
       intro v158 w45 ho46 hb hg_ hnew_
       clear hg_ hnew_
       (first | rw [← Ny157.out] at ho46 | (simp only [Int.reduceToNat] at ho46; rw [← Ny157.out] at ho46))
       have n0_ := aM (Kd.V_elder' (mV_ HO_0.out) (by first | exact Kd.N_base ho46 | exact Kd.S_base ho46 | exact Kd.R_base ho46) hb)
       have n1_ := aM (Kd.V_elder' (mV_ HO_1.out) (by first | exact Kd.N_base ho46 | exact Kd.S_base ho46 | exact Kd.R_base ho46) hb)
       have n2_ := aM (Kd.V_elder' (mV_ HO153.out) (by first | exact Kd.N_base ho46 | exact Kd.S_base ho46 | exact Kd.R_base ho46) hb)
       have n3_ := aM (Kd.V_elder' (mV_ HO167.out) (by first | exact Kd.N_base ho46 | exact Kd.S_base ho46 | exact Kd.R_base ho46) hb)
       have n4_ := aM (Kd.N_elder' (mN_ HO148.out) (by first | exact Kd.N_base ho46 | exact Kd.S_base ho46 | exact Kd.R_base ho46) hb)
       have n5_ := aM (Kd.N_lower ho46 (below_size zb))
       have n6_ := aM (below_step zb hb)
       clear HO_0
       clear HO_1
       clear HO153
       clear HO167
       clear HO148
       clear HB
       have HO_0 := n0_
       have HO_1 := n1_
       have HO153 := n2_
       have HO167 := n3_
       have HO148 := n4_
       have HO159 := n5_
       have HB := n6_
       clear n0_ n1_ n2_ n3_ n4_ n5_ n6_
       clear hb ho46
       refine hK.out _ _ trivial (fun hHeld => ?_)
       clear hK K
       refine norm_ (a' := ?_) ?_ ?_
       rotate_left
       ·show Act.put _ (some 41) _ = _
        simp only [Act.put, xA, xB, xC, i64_w, i32_w]
        rfl
       refine one_ (i := 4) (N := some 39) zA13 rfl rfl (one_of HT_.out (by kernel_rfl)) (by decide) (fun K hK => ?_)
       refine Kd.N_append_rows_step (Kd.slice 43 k43) (w0 := w) w.heap.size (by rfl) (.tmp 35) (.tmp 38) 28 40 (.slice none 0 0) 24 rfl Try.underlying28 info40 rfl (by decide) (by omega) v147 y146 y149 _ _ _ (fun k_ => ((P0_ k_ ∨ P1_ k_) ∨ w.heap.size ≤ k_) ∧ some k_ ≠ (v158 : Value).ownBlock) (fun k_ => ((fun k_ => ((P0_ k_ ∨ P1_ k_) ∨ w.heap.size ≤ k_) ∧ some k_ ≠ (v158 : Value).ownBlock)) k_ ∧ some k_ ≠ (v147 : Value).ownBlock) rfl rfl ?aO ?aR (fun _ hk => hk) ?aF ?aB ?aS ?aL ?_
       (case aR => exact (by skip; exact Kd.V_F (Kd.V_mono (ok' := (fun k_ => ((fun k_ => ((P0_ k_ ∨ P1_ k_) ∨ w.heap.size ≤ k_) ∧ some k_ ≠ (v158 : Value).ownBlock)) k_ ∧ some k_ ≠ (v147 : Value).ownBlock)) (HO153.out) (fun k_ hk => ⟨⟨hk.1.1, hk.2⟩, hk.1.2⟩))))
       (case aB => exact zb)
       (case aF => exact (fun k_ hk => ⟨(.inr (Nat.le_trans (below_size zb) hk)), Kd.fresh' (Kd.N_lt (mN_ HO159.out)) k_ hk⟩))
       (case aO => exact (mN_ HO148.out))
       (case aS => exact (below_size zb))
       (case aL => have := LMc35.out; omega)
       intro v155 w47 ho hb hg hat
       rw [← Ny154.out] at ho
       have n0_ := aM (Kd.V_afterv (ok := (fun k_ => ((P0_ k_ ∨ P1_ k_) ∨ w.heap.size ≤ k_) ∧ some k_ ≠ (v158 : Value).ownBlock)) (zd1 HO_0.out) hg hat)
       have n1_ := aM (Kd.V_afterv (ok := (fun k_ => ((P0_ k_ ∨ P1_ k_) ∨ w.heap.size ≤ k_) ∧ some k_ ≠ (v158 : Value).ownBlock)) (zd1 HO_1.out) hg hat)
       have n2_ := aM (Kd.V_afterv (ok := (fun k_ => ((P0_ k_ ∨ P1_ k_) ∨ w.heap.size ≤ k_) ∧ some k_ ≠ (v158 : Value).ownBlock)) (zd1 HO153.out) hg hat)
       have n3_ := aM (Kd.V_afterv (ok := (fun k_ => ((P0_ k_ ∨ P1_ k_) ∨ w.heap.size ≤ k_) ∧ some k_ ≠ (v158 : Value).ownBlock)) (zd1 HO167.out) hg hat)
       have n4_ := aM (Kd.N_afterv (ok := (fun k_ => ((P0_ k_ ∨ P1_ k_) ∨ w.heap.size ≤ k_))) (mN_ HO159.out) hg hat)
       have n5_ := aM (hb)
       have n6_ := aM (ho)
       clear HO_0
       clear HO_1
       clear HO153
       clear HO167
       clear HO159
       clear HB
       clear HO148
       have HO_0 := n0_
       have HO_1 := n1_
       have HO153 := n2_
       have HO167 := n3_
       have HO159 := n4_
       have HB := n5_
       have HO156 := n6_
       clear n0_ n1_ n2_ n3_ n4_ n5_ n6_
       clear ho hb hg hat
       refine hK.out _ _ trivial (fun hHeld => ?_)
       clear hK K
       refine norm_ (a' := ?_) ?_ ?_
       rotate_left
       ·show Act.put _ (some 39) _ = _
        simp only [Act.put, xA, xB, xC, i64_w, i32_w]
        rfl
       exact norm_ (by simp only [putAll, Act.put, xA, xB, xC]) (hCont (v147, v155, v158) _ ⟨(zd2 HO153.out), (mN_ HO156.out), (mN_ HO159.out), (zd2 HO167.out), (zd2 HO_0.out), (zd2 HO_1.out), zb⟩)
     ·skip
      refine Kd.N_lit_step (Kd.slice 43 k43) _ 40 ?hg (N' := 41) ?hd (xs := ([l1] : List (List (S43)))) (inner := [.slice A1 l1.length c1]) (ok := (fun k_ => ((P0_ k_ ∨ P1_ k_) ∨ w.heap.size ≤ k_))) (okp := (fun k_ => ((P0_ k_ ∨ P1_ k_) ∨ w.heap.size ≤ k_))) ?hr ?hp (fun _ hk => hk) ((show ∀ k_, w40.heap.size ≤ k_ → (fun k_ => ((P0_ k_ ∨ P1_ k_) ∨ w.heap.size ≤ k_)) k_ from fun k_ hk => (.inr (Nat.le_trans (below_size zb) hk))) _ (Nat.le_refl _)) (Below.refl _ _) (Nat.le_refl _) (by simp) ?_; (case hd => rfl); (case hg => rfl); (case hr => first | (go_simp; done) | (go_simp; rfl)); (case hp => exact (Reps.one (show Kd.FK (Kd.slice 43 k43) _ _ l1 [.slice A1 l1.length c1] from (Kd.FK_slice_mk (Kd.V_reads' (Kd.V_mono (ok' := (fun k_ => ((P0_ k_ ∨ P1_ k_) ∨ w.heap.size ≤ k_))) (HO_1.out) (fun k_ hk => hk))).2.1 (Kd.V_F (Kd.V_mono (ok' := (fun k_ => ((P0_ k_ ∨ P1_ k_) ∨ w.heap.size ≤ k_))) (HO_1.out) (fun k_ hk => hk))))) (Reps.none _ _)))
      intro v158 w43 ho44 hb hg_ hnew_
      clear hg_ hnew_
      (first | rw [← Ny157.out] at ho44 | (simp only [Int.reduceToNat] at ho44; rw [← Ny157.out] at ho44))
      have n0_ := aM (Kd.V_elder' (mV_ HO_0.out) (by first | exact Kd.N_base ho44 | exact Kd.S_base ho44 | exact Kd.R_base ho44) hb)
      have n1_ := aM (Kd.V_elder' (mV_ HO_1.out) (by first | exact Kd.N_base ho44 | exact Kd.S_base ho44 | exact Kd.R_base ho44) hb)
      have n2_ := aM (Kd.V_elder' (mV_ HO153.out) (by first | exact Kd.N_base ho44 | exact Kd.S_base ho44 | exact Kd.R_base ho44) hb)
      have n3_ := aM (Kd.V_elder' (mV_ HO167.out) (by first | exact Kd.N_base ho44 | exact Kd.S_base ho44 | exact Kd.R_base ho44) hb)
      have n4_ := aM (Kd.N_lower ho44 (below_size zb))
      have n5_ := aM (below_step zb hb)
      clear HO_0
      clear HO_1
      clear HO153
      clear HO167
      clear HB
      have HO_0 := n0_
      have HO_1 := n1_
      have HO153 := n2_
      have HO167 := n3_
      have HO159 := n4_
      have HB := n5_
      clear n0_ n1_ n2_ n3_ n4_ n5_
      clear hb ho44
      refine hK.out _ _ trivial (fun hHeld => ?_)
      clear hK K
      refine norm_ (a' := ?_) ?_ ?_
      rotate_left
      ·show Act.put _ (some 41) _ = _
       simp only [Act.put, xA, xB, xC, i64_w, i32_w]
       rfl
      refine one_ (i := 0) (N := some 35) zA17 rfl rfl (one_of HT_.out (by kernel_rfl)) (by decide) (fun K hK => ?_)
      refine Kd.N_lit_step (Kd.slice 43 k43) _ 40 ?hg (N' := 35) ?hd (xs := ([] : List (List (S43)))) (inner := []) (ok := (fun k_ => ((P0_ k_ ∨ P1_ k_) ∨ w.heap.size ≤ k_) ∧ some k_ ≠ (v158 : Value).ownBlock)) (okp := (fun k_ => ((P0_ k_ ∨ P1_ k_) ∨ w.heap.size ≤ k_) ∧ some k_ ≠ (v158 : Value).ownBlock)) ?hr ?hp (fun _ hk => hk) ((show ∀ k_, w43.heap.size ≤ k_ → (fun k_ => ((P0_ k_ ∨ P1_ k_) ∨ w.heap.size ≤ k_) ∧ some k_ ≠ (v158 : Value).ownBlock) k_ from fun k_ hk => ⟨(.inr (Nat.le_trans (below_size zb) hk)), Kd.fresh' (Kd.N_lt (mN_ HO159.out)) k_ hk⟩) _ (Nat.le_refl _)) (Below.refl _ _) (Nat.le_refl _) (by simp) ?_; (case hd => rfl); (case hg => rfl); (case hr => first | (go_simp; done) | (go_simp; rfl)); (case hp => exact (Reps.none _ _))
      intro v147 w45 ho46 hb hg_ hnew_
      clear hg_ hnew_
      (first | rw [← Ny146.out] at ho46 | (simp only [Int.reduceToNat] at ho46; rw [← Ny146.out] at ho46))
      have n0_ := aM (Kd.V_elder' (mV_ HO_0.out) (by first | exact Kd.N_base ho46 | exact Kd.S_base ho46 | exact Kd.R_base ho46) hb)
      have n1_ := aM (Kd.V_elder' (mV_ HO_1.out) (by first | exact Kd.N_base ho46 | exact Kd.S_base ho46 | exact Kd.R_base ho46) hb)
      have n2_ := aM (Kd.V_elder' (mV_ HO153.out) (by first | exact Kd.N_base ho46 | exact Kd.S_base ho46 | exact Kd.R_base ho46) hb)
      have n3_ := aM (Kd.V_elder' (mV_ HO167.out) (by first | exact Kd.N_base ho46 | exact Kd.S_base ho46 | exact Kd.R_base ho46) hb)
      have n4_ := aM (Kd.N_elder' (mN_ HO159.out) (by first | exact Kd.N_base ho46 | exact Kd.S_base ho46 | exact Kd.R_base ho46) hb)
      have n5_ := aM (Kd.N_lower ho46 (below_size zb))
      have n6_ := aM (below_step zb hb)
      clear HO_0
      clear HO_1
      clear HO153
      clear HO167
      clear HO159
      clear HB
      have HO_0 := n0_
      have HO_1 := n1_
      have HO153 := n2_
      have HO167 := n3_
      have HO159 := n4_
      have HO148 := n5_
      have HB := n6_
      clear n0_ n1_ n2_ n3_ n4_ n5_ n6_
      clear hb ho46
      refine hK.out _ _ trivial (fun hHeld => ?_)
      clear hK K
      refine norm_ (a' := ?_) ?_ ?_
      rotate_left
      ·show Act.put _ (some 35) _ = _
       simp only [Act.put, xA, xB, xC, i64_w, i32_w]
       rfl
      refine one_ (i := 4) (N := some 39) zA13 rfl rfl (one_of HT_.out (by kernel_rfl)) (by decide) (fun K hK => ?_)
      refine Kd.N_append_rows_step (Kd.slice 43 k43) (w0 := w) w.heap.size (by rfl) (.tmp 35) (.tmp 38) 28 40 (.slice none 0 0) 24 rfl Try.underlying28 info40 rfl (by decide) (by omega) v147 y146 y149 _ _ _ (fun k_ => ((P0_ k_ ∨ P1_ k_) ∨ w.heap.size ≤ k_) ∧ some k_ ≠ (v158 : Value).ownBlock) (fun k_ => ((fun k_ => ((P0_ k_ ∨ P1_ k_) ∨ w.heap.size ≤ k_) ∧ some k_ ≠ (v158 : Value).ownBlock)) k_ ∧ some k_ ≠ (v147 : Value).ownBlock) rfl rfl ?aO ?aR (fun _ hk => hk) ?aF ?aB ?aS ?aL ?_
      (case aR => exact (by skip; exact Kd.V_F (Kd.V_mono (ok' := (fun k_ => ((fun k_ => ((P0_ k_ ∨ P1_ k_) ∨ w.heap.size ≤ k_) ∧ some k_ ≠ (v158 : Value).ownBlock)) k_ ∧ some k_ ≠ (v147 : Value).ownBlock)) (HO153.out) (fun k_ hk => ⟨⟨hk.1.1, hk.1.2⟩, hk.2⟩))))
      (case aB => exact zb)
      (case aF => exact (fun k_ hk => ⟨(.inr (Nat.le_trans (below_size zb) hk)), Kd.fresh' (Kd.N_lt (mN_ HO159.out)) k_ hk⟩))
      (case aO => exact (mN_ HO148.out))
      (case aS => exact (below_size zb))
      (case aL => have := LMc35.out; omega)
      intro v155 w47 ho hb hg hat
      rw [← Ny154.out] at ho
      have n0_ := aM (Kd.V_afterv (ok := (fun k_ => ((P0_ k_ ∨ P1_ k_) ∨ w.heap.size ≤ k_) ∧ some k_ ≠ (v158 : Value).ownBlock)) (mV_ HO_0.out) hg hat)
      have n1_ := aM (Kd.V_afterv (ok := (fun k_ => ((P0_ k_ ∨ P1_ k_) ∨ w.heap.size ≤ k_) ∧ some k_ ≠ (v158 : Value).ownBlock)) (mV_ HO_1.out) hg hat)
      have n2_ := aM (Kd.V_afterv (ok := (fun k_ => ((P0_ k_ ∨ P1_ k_) ∨ w.heap.size ≤ k_) ∧ some k_ ≠ (v158 : Value).ownBlock)) (mV_ HO153.out) hg hat)
      have n3_ := aM (Kd.V_afterv (ok := (fun k_ => ((P0_ k_ ∨ P1_ k_) ∨ w.heap.size ≤ k_) ∧ some k_ ≠ (v158 : Value).ownBlock)) (mV_ HO167.out) hg hat)
      have n4_ := aM (Kd.N_afterv (ok := (fun k_ => ((P0_ k_ ∨ P1_ k_) ∨ w.heap.size ≤ k_))) (mN_ HO159.out) hg hat)
      have n5_ := aM (hb)
      have n6_ := aM (ho)
      clear HO_0
      clear HO_1
      clear HO153
      clear HO167
      clear HO159
      clear HB
      clear HO148
      have HO_0 := n0_
      have HO_1 := n1_
      have HO153 := n2_
      have HO167 := n3_
      have HO159 := n4_
      have HB := n5_
      have HO156 := n6_
      clear n0_ n1_ n2_ n3_ n4_ n5_ n6_
      clear ho hb hg hat
      refine hK.out _ _ trivial (fun hHeld => ?_)
      clear hK K
      refine norm_ (a' := ?_) ?_ ?_
      rotate_left
      ·show Act.put _ (some 39) _ = _
       simp only [Act.put, xA, xB, xC, i64_w, i32_w]
       rfl
      exact norm_ (by simp only [putAll, Act.put, xA, xB, xC]) (hCont (v147, v155, v158) _ ⟨(zd2 HO153.out), (mN_ HO156.out), (mN_ HO159.out), (zd2 HO167.out), (zd2 HO_0.out), (zd2 HO_1.out), zb⟩)
    rintro ⟨v147, v155, v158⟩ w48 ⟨h0_, h1_, h2_, h3_, h4_, h5_, h6_⟩
    have n0_ : Aside0 (Kd.V (Kd.slice 43 k43) 40 w48 w.heap.size (fun k_ => ((P0_ k_ ∨ P1_ k_) ∨ w.heap.size ≤ k_) ∧ some k_ ≠ (v155 : Value).ownBlock ∧ some k_ ≠ (v158 : Value).ownBlock) (.slice A0 y149.length c0) y149) := ⟨h0_⟩
    have n1_ : Aside0 (Kd.N (Kd.slice 43 k43) 40 w48 w.heap.size (fun k_ => ((P0_ k_ ∨ P1_ k_) ∨ w.heap.size ≤ k_) ∧ some k_ ≠ (v158 : Value).ownBlock) v155 y154) := ⟨h1_⟩
    have n2_ : Aside0 (Kd.N (Kd.slice 43 k43) 40 w48 w.heap.size (fun k_ => ((P0_ k_ ∨ P1_ k_) ∨ w.heap.size ≤ k_) ∧ some k_ ≠ (v155 : Value).ownBlock) v158 y157) := ⟨h2_⟩
    have n3_ : Aside0 (Kd.V (Kd.slice 43 k43) 40 w48 w.heap.size (fun k_ => ((P0_ k_ ∨ P1_ k_) ∨ w.heap.size ≤ k_) ∧ some k_ ≠ (v155 : Value).ownBlock ∧ some k_ ≠ (v158 : Value).ownBlock) (.slice A42 y163.length c42) y163) := ⟨h3_⟩
    have n4_ : Aside0 (Kd.V (Kd.slice 43 k43) 40 w48 w.heap.size (fun k_ => ((P0_ k_ ∨ P1_ k_) ∨ w.heap.size ≤ k_) ∧ some k_ ≠ (v155 : Value).ownBlock ∧ some k_ ≠ (v158 : Value).ownBlock) (.slice A0 l0.length c0) l0) := ⟨h4_⟩
    have n5_ : Aside0 (Kd.V k43 43 w48 w.heap.size (fun k_ => ((P0_ k_ ∨ P1_ k_) ∨ w.heap.size ≤ k_) ∧ some k_ ≠ (v155 : Value).ownBlock ∧ some k_ ≠ (v158 : Value).ownBlock) (.slice A1 l1.length c1) l1) := ⟨h5_⟩
    have n6_ : Aside0 (Below w.heap.size w w48) := ⟨h6_⟩
    clear HO_0
    clear HO_1
    clear HB
    clear h0_ h1_ h2_ h3_ h4_ h5_ h6_
    have HO153 := n0_
    have HO156 := n1_
    have HO159 := n2_
    have HO167 := n3_
    have HO_0 := n4_
    have HO_1 := n5_
    have HB := n6_
    clear n0_ n1_ n2_ n3_ n4_ n5_ n6_
    have hHeld := trivial
    obtain ⟨Ao50, co50, eo50⟩ := Kd.N_slice HO159.out
    (first | subst eo50 | (injection eo50 with f1_ f2_ f3_; have f4_ := f1_.symm; have f5_ := f3_.symm; clear f1_ f2_ f3_; subst f4_; subst f5_))
    refine norm_ (a' := ?_) ?_ ?_
    rotate_left
    ·simp only [putAll, Act.put, xA, xB, xC]
     rfl
    refine one_ (i := 7) (N := some 42) zA18 rfl rfl (one_of HT_.out (by kernel_rfl)) (by decide) (fun K hK => ?_)
    refine Kd.N_append_rows_step (Kd.slice 43 k43) (w0 := w) w.heap.size (by rfl) (.tmp 39) (.tmp 41) 28 40 (.slice none 0 0) 24 rfl Try.underlying28 info40 rfl (by decide) (by omega) v155 y154 y157 _ _ _ (fun k_ => ((P0_ k_ ∨ P1_ k_) ∨ w.heap.size ≤ k_)) (fun k_ => ((fun k_ => ((P0_ k_ ∨ P1_ k_) ∨ w.heap.size ≤ k_))) k_ ∧ some k_ ≠ (v155 : Value).ownBlock) rfl rfl ?aO ?aR (fun _ hk => hk) ?aF ?aB ?aS ?aL ?_
    (case aR => exact (by skip; exact Kd.N_F (Kd.N_mono (ok' := (fun k_ => ((fun k_ => ((P0_ k_ ∨ P1_ k_) ∨ w.heap.size ≤ k_))) k_ ∧ some k_ ≠ (v155 : Value).ownBlock)) (HO159.out) (fun k_ hk => ⟨hk.1, hk.2⟩))))
    (case aB => exact zb)
    (case aF => exact (fun k_ hk => (.inr (Nat.le_trans (below_size zb) hk))))
    (case aO => exact (zd4 HO156.out))
    (case aS => exact (below_size zb))
    (case aL => have := LMc36.out; omega)
    intro v161 w49 ho hb hg hat
    rw [← Ny160.out] at ho
    have n0_ := aM (Kd.V_afterv (ok := (fun k_ => ((P0_ k_ ∨ P1_ k_) ∨ w.heap.size ≤ k_) ∧ some k_ ≠ (.slice Ao50 y157.length co50 : Value).ownBlock)) (zd3 HO_0.out) hg hat)
    have n1_ := aM (Kd.V_afterv (ok := (fun k_ => ((P0_ k_ ∨ P1_ k_) ∨ w.heap.size ≤ k_) ∧ some k_ ≠ (.slice Ao50 y157.length co50 : Value).ownBlock)) (zd3 HO_1.out) hg hat)
    have n2_ := aM (Kd.V_afterv (ok := (fun k_ => ((P0_ k_ ∨ P1_ k_) ∨ w.heap.size ≤ k_) ∧ some k_ ≠ (.slice Ao50 y157.length co50 : Value).ownBlock)) (zd3 HO153.out) hg hat)
    have n3_ := aM (Kd.V_afterv (ok := (fun k_ => ((P0_ k_ ∨ P1_ k_) ∨ w.heap.size ≤ k_) ∧ some k_ ≠ (.slice Ao50 y157.length co50 : Value).ownBlock)) (zd3 HO167.out) hg hat)
    have n4_ := aM (Kd.N_afterv (ok := (fun k_ => ((P0_ k_ ∨ P1_ k_) ∨ w.heap.size ≤ k_))) (mN_ HO159.out) hg hat)
    have n5_ := aM (hb)
    have n6_ := aM (ho)
    clear HO_0
    clear HO_1
    clear HO153
    clear HO167
    clear HO159
    clear HB
    clear HO156
    have HO_0 := n0_
    have HO_1 := n1_
    have HO153 := n2_
    have HO167 := n3_
    have HO159 := n4_
    have HB := n5_
    have HO162 := n6_
    clear n0_ n1_ n2_ n3_ n4_ n5_ n6_
    clear ho hb hg hat
    refine hK.out _ _ trivial (fun hHeld => ?_)
    clear hK K
    refine norm_ (a' := ?_) ?_ ?_
    rotate_left
    ·show Act.put _ (some 42) _ = _
     simp only [Act.put, xA, xB, xC, i64_w, i32_w]
     rfl
    refine one_ (i := 11) (N := some 46) zA19 rfl rfl (one_of HT_.out (by kernel_rfl)) (by decide) (fun K hK => ?_)
    refine Kd.N_append_rows_step (Kd.slice 43 k43) (w0 := w) w.heap.size (by rfl) (.tmp 42) (.tmp 45) 28 40 (.slice none 0 0) 24 rfl Try.underlying28 info40 rfl (by decide) (by omega) v161 y160 y163 _ _ _ (fun k_ => ((P0_ k_ ∨ P1_ k_) ∨ w.heap.size ≤ k_)) (fun k_ => ((fun k_ => ((P0_ k_ ∨ P1_ k_) ∨ w.heap.size ≤ k_))) k_ ∧ some k_ ≠ (v161 : Value).ownBlock) rfl rfl ?aO ?aR (fun _ hk => hk) ?aF ?aB ?aS ?aL ?_
    (case aR => exact (by skip; exact Kd.V_F (Kd.V_mono (ok' := (fun k_ => ((fun k_ => ((P0_ k_ ∨ P1_ k_) ∨ w.heap.size ≤ k_))) k_ ∧ some k_ ≠ (v161 : Value).ownBlock)) (HO167.out) (fun k_ hk => ⟨hk.1.1, hk.2⟩))))
    (case aB => exact zb)
    (case aF => exact (fun k_ hk => (.inr (Nat.le_trans (below_size zb) hk))))
    (case aO => exact (mN_ HO162.out))
    (case aS => exact (below_size zb))
    (case aL => have := LMc39.out; omega)
    intro v169 w51 ho hb hg hat
    rw [← Ny168.out] at ho
    have n0_ := aM (Kd.V_afterv (ok := (fun k_ => ((P0_ k_ ∨ P1_ k_) ∨ w.heap.size ≤ k_) ∧ some k_ ≠ (.slice Ao50 y157.length co50 : Value).ownBlock)) (mV_ HO_0.out) hg hat)
    have n1_ := aM (Kd.V_afterv (ok := (fun k_ => ((P0_ k_ ∨ P1_ k_) ∨ w.heap.size ≤ k_) ∧ some k_ ≠ (.slice Ao50 y157.length co50 : Value).ownBlock)) (mV_ HO_1.out) hg hat)
    have n2_ := aM (Kd.V_afterv (ok := (fun k_ => ((P0_ k_ ∨ P1_ k_) ∨ w.heap.size ≤ k_) ∧ some k_ ≠ (.slice Ao50 y157.length co50 : Value).ownBlock)) (mV_ HO153.out) hg hat)
    have n3_ := aM (Kd.V_afterv (ok := (fun k_ => ((P0_ k_ ∨ P1_ k_) ∨ w.heap.size ≤ k_) ∧ some k_ ≠ (.slice Ao50 y157.length co50 : Value).ownBlock)) (mV_ HO167.out) hg hat)
    have n4_ := aM (Kd.N_afterv (ok := (fun k_ => ((P0_ k_ ∨ P1_ k_) ∨ w.heap.size ≤ k_))) (mN_ HO159.out) hg hat)
    have n5_ := aM (hb)
    have n6_ := aM (ho)
    clear HO_0
    clear HO_1
    clear HO153
    clear HO167
    clear HO159
    clear HB
    clear HO162
    have HO_0 := n0_
    have HO_1 := n1_
    have HO153 := n2_
    have HO167 := n3_
    have HO159 := n4_
    have HB := n5_
    have HO170 := n6_
    clear n0_ n1_ n2_ n3_ n4_ n5_ n6_
    clear ho hb hg hat
    refine hK.out _ _ trivial (fun hHeld => ?_)
    clear hK K
    refine norm_ (a' := ?_) ?_ ?_
    rotate_left
    ·show Act.put _ (some 46) _ = _
     simp only [Act.put, xA, xB, xC, i64_w, i32_w]
     rfl
    refine zp 12 (some 4) ?_ zA20 rfl rfl (Or.inl ⟨by rfl, ?_⟩) ?_ ?_ ?_
    rotate_left
    ·intro w'
     go_simp
     with_reducible rfl
    rotate_left
    ·simp only [Act.put, xA, xB, xC, i64_w, i32_w]
     rfl
    refine done_ (done_of HT_.out (by kernel_rfl)) ?_
    try go_wp2
    go_ret
    exact ⟨_, zw, Kd.N_V (mN_ HO170.out), zb⟩
   rw [if_pos c3] at H
   have c3b0 : decide (x5_1 < (l0.length : Int)) = true := decide_eq_true c3
   clear c3
   by_cases c4 : 0 ≤ x5_1
   rotate_left
   ·rw [if_neg c4] at H
    exact absurd H (by simp)
   rw [if_pos c4] at H
   have c4b0 : decide (0 ≤ x5_1) = true := decide_eq_true c4
   clear c4
   replace H := Option.bind_eq_some_iff.mp H
   obtain ⟨t118, A50, H⟩ := H
   replace H : (if t118 < 0 then (spec_l09Insert.l0 k1 l0 l1 (wrap64 (x5_1 + 1))) else ((spec_l09Compare.f k1 (rd_L2 l0 x5_1) l1).bind fun t120 => (if t120 = 0 then (some l0) else ((some (([] : List (List (S43))) : List (List (S43)))).bind fun y121 => (if x5_1 ≤ (l0.length : Int) then ((some (l0.take (x5_1 : Int).toNat : List (List (S43)))).bind fun y124 => (if y121.length + y124.length < 5864062014805 then ((some (y121 ++ y124 : List (List (S43)))).bind fun y129 => ((some (([l1] : List (List (S43))) : List (List (S43)))).bind fun y132 => (if y129.length + y132.length < 5864062014805 then ((some (y129 ++ y132 : List (List (S43)))).bind fun y135 => ((some (l0.drop (x5_1 : Int).toNat : List (List (S43)))).bind fun y138 => (if y135.length + y138.length < 5864062014805 then (some (y135 ++ y138)) else (none)))) else (none)))) else (none))) else (none)))))) = some r := H
   have A5 := aM A50
   clear A50
   by_cases c6 : t118 < 0
   ·rw [if_pos c6] at H
    have c6b0 : decide (t118 < 0) = true := decide_eq_true c6
    clear c6
    have H' := aM H
    clear H
    have p117 : 0 ≤ (x5_1 : Int) := of_decide_eq_true za
    have q117 : x5_1 < (l0.length : Int) := of_decide_eq_true za
    obtain ⟨ad117, A117_0, c117_0, e117, hx117_0, hl117_0, hi117_0⟩ := at_L2 (Kd.V_reads' HO_0.out).2.2 x5_1 p117 q117
    cases e117
    obtain ⟨ce117, hce117, hMe117, hcc117⟩ := Kd.V_get HO_0.out [] x5_1 p117 (by first | exact q117 | exact of_decide_eq_true za | (have e_ := (Kd.V_reads' HO_0.out).1; omega))
    obtain ⟨ua117_0, uc117_0, rfl, ul117_0, ge117_0⟩ := Kd.FK_slice_open hMe117
    have hv117_0 := hcc117 0 _ rfl
    rw [Nat.add_zero, show ((Kd.slice 43 k43)).sz = 1 from rfl, Nat.mul_one] at hv117_0
    replace hv117_0 := Option.some.inj (hv117_0.symm.trans hx117_0)
    injection hv117_0 with hva_ hvn_ hvc_
    rw [hva_] at ge117_0
    rw [hvc_] at ul117_0
    have HL117_0 := aM (show Kd.V k43 43 _ w.heap.size _ _ (rd_L2 l0 x5_1) from Kd.V_mk ul117_0 ge117_0)
    clear hva_ hvn_ hvc_ ge117_0 ul117_0
    clear hcc117 hce117
    have HR117_0 := aM hi117_0
    have HC117_0 := aM hl117_0
    clear hi117_0 hl117_0
    replace p117 := eq_true p117
    replace q117 := eq_true q117
    go_wp2_with (first | (go_at_call 31; (with_reducible refine (spec_l09Compare.calls k1 _ _ (rd_L2 l0 x5_1) _ _ l1 t118 _ ?side1 ?side2 ?side3 ?side4 A5.out).mono ?_); (case side1 => repeat (first | exact (mQ_ HR117_0.out) | (with_reducible refine Kd.C_alloc ?_ _) | (with_reducible refine Kd.C_drewN ?_ _) | (with_reducible refine Kd.C_drew ?_))); (case side2 => exact HC117_0.out); (case side3 => repeat (first | exact (Kd.V_reads' HO_1.out).2.2 | (with_reducible refine Kd.C_alloc ?_ _) | (with_reducible refine Kd.C_drewN ?_ _) | (with_reducible refine Kd.C_drew ?_))); (case side4 => exact (Kd.V_reads' HO_1.out).2.1); rintro e w7 ⟨rfl, hb⟩; have n0_ := aM (Kd.V_below (mV_ HO_0.out) hb); have n1_ := aM (Kd.V_below (mV_ HO_1.out) hb); have n2_ := aM (Kd.V_below (mV_ HL117_0.out) hb); have n3_ := aM (Kd.C_below (mQ_ HR117_0.out) hb); have n4_ := aM (below_step zb hb); clear HO_0 HO_1 HL117_0 HR117_0 HB; have HO_0 := n0_; have HO_1 := n1_; have HL117_0 := n2_; have HR117_0 := n3_; have HB := n4_; clear n0_ n1_ n2_ n3_ n4_; (try clear hb); (try clear hb2); (try clear hk); (try clear hi)))
    go_roundg k1
    case measure => have := HK1.out; omega
    case rel => exact ⟨(wrap64 (x5_1 + 1)), zr, H', ⟨by have := HK1.out; omega⟩, ⟨mV_ HO_0.out⟩, ⟨mV_ HO_1.out⟩, ⟨zb⟩⟩
   rw [if_neg c6] at H
   have c6b0 : decide (t118 < 0) = false := decide_eq_false c6
   clear c6
   replace H := Option.bind_eq_some_iff.mp H
   obtain ⟨t120, A80, H⟩ := H
   replace H : (if t120 = 0 then (some l0) else ((some (([] : List (List (S43))) : List (List (S43)))).bind fun y121 => (if x5_1 ≤ (l0.length : Int) then ((some (l0.take (x5_1 : Int).toNat : List (List (S43)))).bind fun y124 => (if y121.length + y124.length < 5864062014805 then ((some (y121 ++ y124 : List (List (S43)))).bind fun y129 => ((some (([l1] : List (List (S43))) : List (List (S43)))).bind fun y132 => (if y129.length + y132.length < 5864062014805 then ((some (y129 ++ y132 : List (List (S43)))).bind fun y135 => ((some (l0.drop (x5_1 : Int).toNat : List (List (S43)))).bind fun y138 => (if y135.length + y138.length < 5864062014805 then (some (y135 ++ y138)) else (none)))) else (none)))) else (none))) else (none)))) = some r := H
   have A8 := aM A80
   clear A80
   by_cases c9 : t120 = 0
   ·rw [if_pos c9] at H
    have c9b0 : (t120 == 0) = true := beq_iff_eq.mpr c9
    have c9b1 : (t120 != 0) = false := bne_eq_false_iff_eq.mpr c9
    clear c9
    obtain rfl := Option.some.inj H
    have p117 : 0 ≤ (x5_1 : Int) := of_decide_eq_true za
    have q117 : x5_1 < (l0.length : Int) := of_decide_eq_true za
    obtain ⟨ad117, A117_0, c117_0, e117, hx117_0, hl117_0, hi117_0⟩ := at_L2 (Kd.V_reads' HO_0.out).2.2 x5_1 p117 q117
    cases e117
    obtain ⟨ce117, hce117, hMe117, hcc117⟩ := Kd.V_get HO_0.out [] x5_1 p117 (by first | exact q117 | exact of_decide_eq_true za | (have e_ := (Kd.V_reads' HO_0.out).1; omega))
    obtain ⟨ua117_0, uc117_0, rfl, ul117_0, ge117_0⟩ := Kd.FK_slice_open hMe117
    have hv117_0 := hcc117 0 _ rfl
    rw [Nat.add_zero, show ((Kd.slice 43 k43)).sz = 1 from rfl, Nat.mul_one] at hv117_0
    replace hv117_0 := Option.some.inj (hv117_0.symm.trans hx117_0)
    injection hv117_0 with hva_ hvn_ hvc_
    rw [hva_] at ge117_0
    rw [hvc_] at ul117_0
    have HL117_0 := aM (show Kd.V k43 43 _ w.heap.size _ _ (rd_L2 l0 x5_1) from Kd.V_mk ul117_0 ge117_0)
    clear hva_ hvn_ hvc_ ge117_0 ul117_0
    clear hcc117 hce117
    have HR117_0 := aM hi117_0
    have HC117_0 := aM hl117_0
    clear hi117_0 hl117_0
    replace p117 := eq_true p117
    replace q117 := eq_true q117
    go_wp2_with (first | (go_at_call 31; (with_reducible refine (spec_l09Compare.calls k1 _ _ (rd_L2 l0 x5_1) _ _ l1 t118 _ ?side1 ?side2 ?side3 ?side4 A5.out).mono ?_); (case side1 => repeat (first | exact (mQ_ HR117_0.out) | (with_reducible refine Kd.C_alloc ?_ _) | (with_reducible refine Kd.C_drewN ?_ _) | (with_reducible refine Kd.C_drew ?_))); (case side2 => exact HC117_0.out); (case side3 => repeat (first | exact (Kd.V_reads' HO_1.out).2.2 | (with_reducible refine Kd.C_alloc ?_ _) | (with_reducible refine Kd.C_drewN ?_ _) | (with_reducible refine Kd.C_drew ?_))); (case side4 => exact (Kd.V_reads' HO_1.out).2.1); rintro e w10 ⟨rfl, hb⟩; have n0_ := aM (Kd.V_below (mV_ HO_0.out) hb); have n1_ := aM (Kd.V_below (mV_ HO_1.out) hb); have n2_ := aM (Kd.V_below (mV_ HL117_0.out) hb); have n3_ := aM (Kd.C_below (mQ_ HR117_0.out) hb); have n4_ := aM (below_step zb hb); clear HO_0 HO_1 HL117_0 HR117_0 HB; have HO_0 := n0_; have HO_1 := n1_; have HL117_0 := n2_; have HR117_0 := n3_; have HB := n4_; clear n0_ n1_ n2_ n3_ n4_; (try clear hb); (try clear hb2); (try clear hk); (try clear hi); have p119 : 0 ≤ (x5_1 : Int) := of_decide_eq_true za; have q119 : x5_1 < (l0.length : Int) := of_decide_eq_true za; obtain ⟨ad119, A119_0, c119_0, e119, hx119_0, hl119_0, hi119_0⟩ := at_L2 (Kd.V_reads' HO_0.out).2.2 x5_1 p119 q119; obtain rfl : ad117 = ad119 := (by injection e119); obtain ⟨ce119, hce119, hMe119, hcc119⟩ := Kd.V_get HO_0.out [] x5_1 p119 (by first | exact q119 | exact of_decide_eq_true za | (have e_ := (Kd.V_reads' HO_0.out).1; omega)); obtain ⟨ua119_0, uc119_0, rfl, ul119_0, ge119_0⟩ := Kd.FK_slice_open hMe119; have hv119_0 := hcc119 0 _ rfl; rw [Nat.add_zero, show ((Kd.slice 43 k43)).sz = 1 from rfl, Nat.mul_one] at hv119_0; replace hv119_0 := Option.some.inj (hv119_0.symm.trans hx119_0); injection hv119_0 with hva_ hvn_ hvc_; rw [hva_] at ge119_0; rw [hvc_] at ul119_0; have HL119_0 := aM (show Kd.V k43 43 _ w.heap.size _ _ (rd_L2 l0 x5_1) from Kd.V_mk ul119_0 ge119_0); clear hva_ hvn_ hvc_ ge119_0 ul119_0 hcc119 hce119; have HR119_0 := aM hi119_0; have HC119_0 := aM hl119_0; clear hi119_0 hl119_0; replace p119 := eq_true p119; replace q119 := eq_true q119) | (go_at_call 31; (with_reducible refine (spec_l09Compare.calls k1 _ _ (rd_L2 l0 x5_1) _ _ l1 t120 _ ?side1 ?side2 ?side3 ?side4 A8.out).mono ?_); (case side1 => repeat (first | exact (mQ_ HR119_0.out) | (with_reducible refine Kd.C_alloc ?_ _) | (with_reducible refine Kd.C_drewN ?_ _) | (with_reducible refine Kd.C_drew ?_))); (case side2 => exact HC119_0.out); (case side3 => repeat (first | exact (Kd.V_reads' HO_1.out).2.2 | (with_reducible refine Kd.C_alloc ?_ _) | (with_reducible refine Kd.C_drewN ?_ _) | (with_reducible refine Kd.C_drew ?_))); (case side4 => exact (Kd.V_reads' HO_1.out).2.1); rintro e w11 ⟨rfl, hb⟩; have n0_ := aM (Kd.V_below (mV_ HO_0.out) hb); have n1_ := aM (Kd.V_below (mV_ HO_1.out) hb); have n2_ := aM (Kd.V_below (mV_ HL117_0.out) hb); have n3_ := aM (Kd.V_below (mV_ HL119_0.out) hb); have n4_ := aM (Kd.C_below (mQ_ HR117_0.out) hb); have n5_ := aM (Kd.C_below (mQ_ HR119_0.out) hb); have n6_ := aM (below_step zb hb); clear HO_0 HO_1 HL117_0 HL119_0 HR117_0 HR119_0 HB; have HO_0 := n0_; have HO_1 := n1_; have HL117_0 := n2_; have HL119_0 := n3_; have HR117_0 := n4_; have HR119_0 := n5_; have HB := n6_; clear n0_ n1_ n2_ n3_ n4_ n5_ n6_; (try clear hb); (try clear hb2); (try clear hk); (try clear hi)))
    go_ret
    exact ⟨_, zw, mV_ HO_0.out, zb⟩
   rw [if_neg c9] at H
   have c9b0 : (t120 == 0) = false := beq_eq_false_iff_ne.mpr c9
   have c9b1 : (t120 != 0) = true := bne_iff_ne.mpr c9
   obtain ⟨y121, hy121⟩ : ∃ y_ : List (List (S43)), y_ = (([] : List (List (S43)))) := ⟨_, rfl⟩
   replace H : (if x5_1 ≤ (l0.length : Int) then ((some (l0.take (x5_1 : Int).toNat : List (List (S43)))).bind fun y124 => (if y121.length + y124.length < 5864062014805 then ((some (y121 ++ y124 : List (List (S43)))).bind fun y129 => ((some (([l1] : List (List (S43))) : List (List (S43)))).bind fun y132 => (if y129.length + y132.length < 5864062014805 then ((some (y129 ++ y132 : List (List (S43)))).bind fun y135 => ((some (l0.drop (x5_1 : Int).toNat : List (List (S43)))).bind fun y138 => (if y135.length + y138.length < 5864062014805 then (some (y135 ++ y138)) else (none)))) else (none)))) else (none))) else (none)) = some r := zy H hy121
   have Ny121 := aM hy121
   clear hy121
   have c12b0 := eq_true (of_decide_eq_true za : 0 ≤ x5_1)
   by_cases c13 : x5_1 ≤ (l0.length : Int)
   rotate_left
   ·rw [if_neg c13] at H
    exact absurd H (by simp)
   rw [if_pos c13] at H
   have c13b0 := eq_true c13
   have c13b1 : decide (x5_1 ≤ (l0.length : Int)) = true := decide_eq_true c13
   clear c13
   obtain ⟨y124, hy124⟩ : ∃ y_ : List (List (S43)), y_ = (l0.take (x5_1 : Int).toNat) := ⟨_, rfl⟩
   replace H : (if y121.length + y124.length < 5864062014805 then ((some (y121 ++ y124 : List (List (S43)))).bind fun y129 => ((some (([l1] : List (List (S43))) : List (List (S43)))).bind fun y132 => (if y129.length + y132.length < 5864062014805 then ((some (y129 ++ y132 : List (List (S43)))).bind fun y135 => ((some (l0.drop (x5_1 : Int).toNat : List (List (S43)))).bind fun y138 => (if y135.length + y138.length < 5864062014805 then (some (y135 ++ y138)) else (none)))) else (none)))) else (none)) = some r := zy H hy124
   have Ny124 := aM hy124
   clear hy124
   by_cases c14 : y121.length + y124.length < 5864062014805
   rotate_left
   ·rw [if_neg c14] at H
    exact absurd H (by simp)
   rw [if_pos c14] at H
   have LMc14 := aM c14
   clear c14
   obtain ⟨y129, hy129⟩ : ∃ y_ : List (List (S43)), y_ = (y121 ++ y124) := ⟨_, rfl⟩
   replace H : ((some (([l1] : List (List (S43))) : List (List (S43)))).bind fun y132 => (if y129.length + y132.length < 5864062014805 then ((some (y129 ++ y132 : List (List (S43)))).bind fun y135 => ((some (l0.drop (x5_1 : Int).toNat : List (List (S43)))).bind fun y138 => (if y135.length + y138.length < 5864062014805 then (some (y135 ++ y138)) else (none)))) else (none))) = some r := zy H hy129
   have Ny129 := aM hy129
   clear hy129
   obtain ⟨y132, hy132⟩ : ∃ y_ : List (List (S43)), y_ = (([l1] : List (List (S43)))) := ⟨_, rfl⟩
   replace H : (if y129.length + y132.length < 5864062014805 then ((some (y129 ++ y132 : List (List (S43)))).bind fun y135 => ((some (l0.drop (x5_1 : Int).toNat : List (List (S43)))).bind fun y138 => (if y135.length + y138.length < 5864062014805 then (some (y135 ++ y138)) else (none)))) else (none)) = some r := zy H hy132
   have Ny132 := aM hy132
   clear hy132
   by_cases c15 : y129.length + y132.length < 5864062014805
   rotate_left
   ·rw [if_neg c15] at H
    exact absurd H (by simp)
   rw [if_pos c15] at H
   have LMc15 := aM c15
   clear c15
   obtain ⟨y135, hy135⟩ : ∃ y_ : List (List (S43)), y_ = (y129 ++ y132) := ⟨_, rfl⟩
   replace H : ((some (l0.drop (x5_1 : Int).toNat : List (List (S43)))).bind fun y138 => (if y135.length + y138.length < 5864062014805 then (some (y135 ++ y138)) else (none))) = some r := zy H hy135
   have Ny135 := aM hy135
   clear hy135
   have c16b0 := eq_true (of_decide_eq_true za : 0 ≤ x5_1)
   have c17b0 := eq_true (of_decide_eq_true za : x5_1 ≤ (l0.length : Int))
   obtain ⟨y138, hy138⟩ : ∃ y_ : List (List (S43)), y_ = (l0.drop (x5_1 : Int).toNat) := ⟨_, rfl⟩
   replace H : (if y135.length + y138.length < 5864062014805 then (some (y135 ++ y138)) else (none)) = some r := zy H hy138
   have Ny138 := aM hy138
   clear hy138
   by_cases c18 : y135.length + y138.length < 5864062014805
   rotate_left
   ·rw [if_neg c18] at H
    exact absurd H (by simp)
   rw [if_pos c18] at H
   have LMc18 := aM c18
   clear c18
   obtain ⟨y143, hy143⟩ : ∃ y_ : List (List (S43)), y_ = (y135 ++ y138) := ⟨_, rfl⟩
   replace H : (some y143) = some r := zy H hy143
   have Ny143 := aM hy143
   clear hy143
   obtain rfl := Option.some.inj H
   have p117 : 0 ≤ (x5_1 : Int) := of_decide_eq_true za
   have q117 : x5_1 < (l0.length : Int) := of_decide_eq_true za
   obtain ⟨ad117, A117_0, c117_0, e117, hx117_0, hl117_0, hi117_0⟩ := at_L2 (Kd.V_reads' HO_0.out).2.2 x5_1 p117 q117
   cases e117
   obtain ⟨ce117, hce117, hMe117, hcc117⟩ := Kd.V_get HO_0.out [] x5_1 p117 (by first | exact q117 | exact of_decide_eq_true za | (have e_ := (Kd.V_reads' HO_0.out).1; omega))
   obtain ⟨ua117_0, uc117_0, rfl, ul117_0, ge117_0⟩ := Kd.FK_slice_open hMe117
   have hv117_0 := hcc117 0 _ rfl
   rw [Nat.add_zero, show ((Kd.slice 43 k43)).sz = 1 from rfl, Nat.mul_one] at hv117_0
   replace hv117_0 := Option.some.inj (hv117_0.symm.trans hx117_0)
   injection hv117_0 with hva_ hvn_ hvc_
   rw [hva_] at ge117_0
   rw [hvc_] at ul117_0
   have HL117_0 := aM (show Kd.V k43 43 _ w.heap.size _ _ (rd_L2 l0 x5_1) from Kd.V_mk ul117_0 ge117_0)
   clear hva_ hvn_ hvc_ ge117_0 ul117_0
   clear hcc117 hce117
   have HR117_0 := aM hi117_0
   have HC117_0 := aM hl117_0
   clear hi117_0 hl117_0
   replace p117 := eq_true p117
   replace q117 := eq_true q117
   try go_wp2_with (first | (go_at_call 31; (with_reducible refine (spec_l09Compare.calls k1 _ _ (rd_L2 l0 x5_1) _ _ l1 t118 _ ?side1 ?side2 ?side3 ?side4 A5.out).mono ?_); (case side1 => repeat (first | exact (mQ_ HR117_0.out) | (with_reducible refine Kd.C_alloc ?_ _) | (with_reducible refine Kd.C_drewN ?_ _) | (with_reducible refine Kd.C_drew ?_))); (case side2 => exact HC117_0.out); (case side3 => repeat (first | exact (Kd.V_reads' HO_1.out).2.2 | (with_reducible refine Kd.C_alloc ?_ _) | (with_reducible refine Kd.C_drewN ?_ _) | (with_reducible refine Kd.C_drew ?_))); (case side4 => exact (Kd.V_reads' HO_1.out).2.1); rintro e w19 ⟨rfl, hb⟩; have n0_ := aM (Kd.V_below (mV_ HO_0.out) hb); have n1_ := aM (Kd.V_below (mV_ HO_1.out) hb); have n2_ := aM (Kd.V_below (mV_ HL117_0.out) hb); have n3_ := aM (Kd.C_below (mQ_ HR117_0.out) hb); have n4_ := aM (below_step zb hb); clear HO_0 HO_1 HL117_0 HR117_0 HB; have HO_0 := n0_; have HO_1 := n1_; have HL117_0 := n2_; have HR117_0 := n3_; have HB := n4_; clear n0_ n1_ n2_ n3_ n4_; (try clear hb); (try clear hb2); (try clear hk); (try clear hi); have p119 : 0 ≤ (x5_1 : Int) := of_decide_eq_true za; have q119 : x5_1 < (l0.length : Int) := of_decide_eq_true za; obtain ⟨ad119, A119_0, c119_0, e119, hx119_0, hl119_0, hi119_0⟩ := at_L2 (Kd.V_reads' HO_0.out).2.2 x5_1 p119 q119; obtain rfl : ad117 = ad119 := (by injection e119); obtain ⟨ce119, hce119, hMe119, hcc119⟩ := Kd.V_get HO_0.out [] x5_1 p119 (by first | exact q119 | exact of_decide_eq_true za | (have e_ := (Kd.V_reads' HO_0.out).1; omega)); obtain ⟨ua119_0, uc119_0, rfl, ul119_0, ge119_0⟩ := Kd.FK_slice_open hMe119; have hv119_0 := hcc119 0 _ rfl; rw [Nat.add_zero, show ((Kd.slice 43 k43)).sz = 1 from rfl, Nat.mul_one] at hv119_0; replace hv119_0 := Option.some.inj (hv119_0.symm.trans hx119_0); injection hv119_0 with hva_ hvn_ hvc_; rw [hva_] at ge119_0; rw [hvc_] at ul119_0; have HL119_0 := aM (show Kd.V k43 43 _ w.heap.size _ _ (rd_L2 l0 x5_1) from Kd.V_mk ul119_0 ge119_0); clear hva_ hvn_ hvc_ ge119_0 ul119_0 hcc119 hce119; have HR119_0 := aM hi119_0; have HC119_0 := aM hl119_0; clear hi119_0 hl119_0; replace p119 := eq_true p119; replace q119 := eq_true q119) | (go_at_call 31; (with_reducible refine (spec_l09Compare.calls k1 _ _ (rd_L2 l0 x5_1) _ _ l1 t120 _ ?side1 ?side2 ?side3 ?side4 A8.out).mono ?_); (case side1 => repeat (first | exact (mQ_ HR119_0.out) | (with_reducible refine Kd.C_alloc ?_ _) | (with_reducible refine Kd.C_drewN ?_ _) | (with_reducible refine Kd.C_drew ?_))); (case side2 => exact HC119_0.out); (case side3 => repeat (first | exact (Kd.V_reads' HO_1.out).2.2 | (with_reducible refine Kd.C_alloc ?_ _) | (with_reducible refine Kd.C_drewN ?_ _) | (with_reducible refine Kd.C_drew ?_))); (case side4 => exact (Kd.V_reads' HO_1.out).2.1); rintro e w20 ⟨rfl, hb⟩; have n0_ := aM (Kd.V_below (mV_ HO_0.out) hb); have n1_ := aM (Kd.V_below (mV_ HO_1.out) hb); have n2_ := aM (Kd.V_below (mV_ HL117_0.out) hb); have n3_ := aM (Kd.V_below (mV_ HL119_0.out) hb); have n4_ := aM (Kd.C_below (mQ_ HR117_0.out) hb); have n5_ := aM (Kd.C_below (mQ_ HR119_0.out) hb); have n6_ := aM (below_step zb hb); clear HO_0 HO_1 HL117_0 HL119_0 HR117_0 HR119_0 HB; have HO_0 := n0_; have HO_1 := n1_; have HL117_0 := n2_; have HL119_0 := n3_; have HR117_0 := n4_; have HR119_0 := n5_; have HB := n6_; clear n0_ n1_ n2_ n3_ n4_ n5_ n6_; (try clear hb); (try clear hb2); (try clear hk); (try clear hi)))
   have n0_ := aM (Kd.V_drew HO_0.out)
   have n1_ := aM (Kd.V_drew HO_1.out)
   have n2_ := aM (Kd.V_drew HL117_0.out)
   have n3_ := aM (Kd.V_drew HL119_0.out)
   have n4_ := aM (Kd.C_drew HR117_0.out)
   have n5_ := aM (Kd.C_drew HR119_0.out)
   have n6_ := aM (below_drew1 HB.out)
   clear HO_0
   clear HO_1
   clear HL117_0
   clear HL119_0
   clear HR117_0
   clear HR119_0
   clear HB
   have HO_0 := n0_
   have HO_1 := n1_
   have HL117_0 := n2_
   have HL119_0 := n3_
   have HR117_0 := n4_
   have HR119_0 := n5_
   have HB := n6_
   clear n0_ n1_ n2_ n3_ n4_ n5_ n6_
   have q22 : (x5_1 : Int) ≤ ((l0.length : Int) : Int) := of_decide_eq_true za
   obtain ⟨i022, hi022, _, hsz22, _⟩ := info_parts info40
   have hroom22 : l0.length ≤ c0 := (Kd.V_reads' HO_0.out).2.1
   have hC22 : Kd.F (Kd.slice 43 k43) _ _ (some ad117) l0.length l0 := (Kd.V_at (base := w.heap.size) HO_0.out).2.2
   have hcut22 := cut_to (P := Try.prog) 28 40 .i64 Try.underlying28 hi022 (some ad117) l0.length c0 x5_1 (of_decide_eq_true za) q22 hroom22
   have hr22 := Kd.F_take (m := (x5_1 : Int).toNat) hC22 (by omega)
   have hy22 : y124.length = (x5_1 : Int).toNat := (by rw [Ny124.out, List.length_take]; omega)
   rw [← Ny124.out] at hr22
   rw [← hy22] at hcut22
   have HO128 := aM (show Kd.V (Kd.slice 43 k43) 40 _ w.heap.size _ (.slice (some ad117) y124.length c0) y124 from Kd.V_mk (by omega) hr22)
   have HC128 := aM (show y124.length ≤ c0 from by omega)
   clear hr22 hC22 hroom22 hi022 hsz22
   have KY22 := aM hy22
   clear hy22
   replace q22 := eq_true q22
   have q23 : (x5_1 : Int) ≤ ((l0.length : Int) : Int) := of_decide_eq_true za
   obtain ⟨i023, hi023, _, hsz23, _⟩ := info_parts info40
   have hroom23 : l0.length ≤ c0 := (Kd.V_reads' HO_0.out).2.1
   have hC23 : Kd.F (Kd.slice 43 k43) _ _ (some ad117) l0.length l0 := (Kd.V_at (base := w.heap.size) HO_0.out).2.2
   have q023 : (0 : Int) ≤ (x5_1 : Int) := of_decide_eq_true za
   have hcut23 := cut_from (P := Try.prog) 28 40 .i64 Try.underlying28 hi023 1 hsz23 (some ad117) l0.length c0 x5_1 q023 q23
   have hr23 := Kd.F_cut (m := (x5_1 : Int).toNat) (c := c0) hC23 (by omega) hroom23
   obtain ⟨A23, hA23⟩ : ∃ A1, A1 = (if c0 = (x5_1 : Int).toNat then (some ad117) else ((some ad117) : Option Addr).map (·.add ((x5_1 : Int).toNat * 1))) := ⟨_, rfl⟩
   obtain ⟨c23, hc23⟩ : ∃ c1, c1 = c0 - (x5_1 : Int).toNat := ⟨_, rfl⟩
   have hy23 : y138.length = l0.length - (x5_1 : Int).toNat := (by rw [Ny138.out, List.length_drop] <;> omega)
   rw [show (l0).drop (x5_1 : Int).toNat = y138 from Ny138.out.symm] at hr23
   replace hr23 : Kd.F (Kd.slice 43 k43) _ _ A23 y138.length y138 := (by rw [hA23]; exact hr23)
   rw [← hy23, ← hA23, ← hc23] at hcut23
   have HO142 := aM (show Kd.V (Kd.slice 43 k43) 40 _ w.heap.size _ (.slice A23 y138.length c23) y138 from Kd.V_mk (by rw [hy23, hc23]; exact Nat.sub_le_sub_right hroom23 _) hr23)
   have HC142 := aM (show y138.length ≤ c23 from by rw [hy23, hc23]; exact Nat.sub_le_sub_right hroom23 _)
   clear hr23 hC23 hroom23 hi023 hsz23 hc23
   have KY23 := aM hy23
   have KA23 := aM hA23
   clear hy23 hA23
   replace q23 := eq_true q23
   refine start_ (n := 13) (S := fun w' => True) (ds := []) zA5 (by kernel_rfl) rfl rfl trivial (fun hHeld => ?_); refine with_tabW spec_l09Insert.tab6 spec_l09Insert.bits6 (fun HT_ HW_ => ?_)
   generalize w20.drew = w21 at HO_0 HO_1 HL117_0 HL119_0 HR117_0 HR119_0 HB HO128 HO142 hHeld ⊢
   refine zp 1 (some 36) ?_ zA6 rfl rfl (Or.inl ⟨by rfl, ?_⟩) ?_ ?_ ?_
   rotate_left
   ·intro w'
    go_simp
    with_reducible rfl
   rotate_left
   ·simp only [Act.put, xA, xB, xC, i64_w, i32_w]
    rfl
   refine zp 2 (some 37) ?_ zA7 rfl rfl (Or.inl ⟨by rfl, ?_⟩) ?_ ?_ ?_
   rotate_left
   ·intro w'
    go_simp
    with_reducible rfl
   rotate_left
   ·simp only [Act.put, xA, xB, xC, i64_w, i32_w]
    rfl
   refine zp 3 (some 38) ?_ zA8 rfl rfl (Or.inl ⟨by rfl, ?_⟩) ?_ ?_ ?_
   rotate_left
   ·intro w'
    go_simp
    with_reducible rfl
   rotate_left
   ·simp only [Act.put, xA, xB, xC, i64_w, i32_w]
    rfl
   refine zp 5 (some 40) ?_ zA9 rfl rfl (Or.inl ⟨by rfl, ?_⟩) ?_ ?_ ?_
   rotate_left
   ·intro w'
    go_simp
    with_reducible rfl
   rotate_left
   ·simp only [Act.put, xA, xB, xC, i64_w, i32_w]
    rfl
   refine zp 8 (some 43) ?_ zA10 rfl rfl (Or.inl ⟨by rfl, ?_⟩) ?_ ?_ ?_
   rotate_left
   ·intro w'
    go_simp
    with_reducible rfl
   rotate_left
   ·simp only [Act.put, xA, xB, xC, i64_w, i32_w]
    rfl
   refine zp 9 (some 44) ?_ zA11 rfl rfl (Or.inl ⟨by rfl, ?_⟩) ?_ ?_ ?_
   rotate_left
   ·intro w'
    go_simp
    with_reducible rfl
   rotate_left
   ·simp only [Act.put, xA, xB, xC, i64_w, i32_w]
    rfl
   refine zp 10 (some 45) ?_ zA12 rfl rfl (Or.inl ⟨by rfl, ?_⟩) ?_ ?_ ?_
   rotate_left
   ·intro w'
    go_simp
    with_reducible rfl
   rotate_left
   ·simp only [Act.put, xA, xB, xC, i64_w, i32_w]
    rfl
   refine join_ (σ := Value × Value × Value) 3 zA13 (fun s_ => [(35, s_.1), (39, s_.2.1), (41, s_.2.2)]) (fun s_ w' => (Kd.V k43 43 w' w.heap.size (fun k_ => ((P0_ k_ ∨ P1_ k_) ∨ w.heap.size ≤ k_) ∧ some k_ ≠ (s_.2.1 : Value).ownBlock ∧ some k_ ≠ (s_.2.2 : Value).ownBlock) (.slice A117_0 (rd_L2 l0 x5_1).length c117_0) (rd_L2 l0 x5_1)) ∧ (Kd.V k43 43 w' w.heap.size (fun k_ => ((P0_ k_ ∨ P1_ k_) ∨ w.heap.size ≤ k_) ∧ some k_ ≠ (s_.2.1 : Value).ownBlock ∧ some k_ ≠ (s_.2.2 : Value).ownBlock) (.slice A119_0 (rd_L2 l0 x5_1).length c119_0) (rd_L2 l0 x5_1)) ∧ (Kd.V (Kd.slice 43 k43) 40 w' w.heap.size (fun k_ => ((P0_ k_ ∨ P1_ k_) ∨ w.heap.size ≤ k_) ∧ some k_ ≠ (s_.2.1 : Value).ownBlock ∧ some k_ ≠ (s_.2.2 : Value).ownBlock) (.slice (some ad117) y124.length c0) y124) ∧ (Kd.N (Kd.slice 43 k43) 40 w' w.heap.size (fun k_ => ((P0_ k_ ∨ P1_ k_) ∨ w.heap.size ≤ k_) ∧ some k_ ≠ (s_.2.2 : Value).ownBlock) s_.2.1 y129) ∧ (Kd.N (Kd.slice 43 k43) 40 w' w.heap.size (fun k_ => ((P0_ k_ ∨ P1_ k_) ∨ w.heap.size ≤ k_) ∧ some k_ ≠ (s_.2.1 : Value).ownBlock) s_.2.2 y132) ∧ (Kd.V (Kd.slice 43 k43) 40 w' w.heap.size (fun k_ => ((P0_ k_ ∨ P1_ k_) ∨ w.heap.size ≤ k_) ∧ some k_ ≠ (s_.2.1 : Value).ownBlock ∧ some k_ ≠ (s_.2.2 : Value).ownBlock) (.slice A23 y138.length c23) y138) ∧ (Kd.V (Kd.slice 43 k43) 40 w' w.heap.size (fun k_ => ((P0_ k_ ∨ P1_ k_) ∨ w.heap.size ≤ k_) ∧ some k_ ≠ (s_.2.1 : Value).ownBlock ∧ some k_ ≠ (s_.2.2 : Value).ownBlock) (.slice (some ad117) l0.length c0) l0) ∧ (Kd.V k43 43 w' w.heap.size (fun k_ => ((P0_ k_ ∨ P1_ k_) ∨ w.heap.size ≤ k_) ∧ some k_ ≠ (s_.2.1 : Value).ownBlock ∧ some k_ ≠ (s_.2.2 : Value).ownBlock) (.slice A1 l1.length c1) l1) ∧ (Below w.heap.size w w')) ?_ ?_
   rotate_left
   ·intro hCont
    refine two_ (i := 0) (j := 6) (Ni := some 35) (Nj := some 41) zA14 zA15 rfl rfl rfl rfl (two_of HT_.out (by kernel_rfl)) (by decide) (by decide) (fun K hK => ?_) (fun K hK => ?_)
    ·skip
     refine Kd.N_lit_step (Kd.slice 43 k43) _ 40 ?hg (N' := 35) ?hd (xs := ([] : List (List (S43)))) (inner := []) (ok := (fun k_ => ((P0_ k_ ∨ P1_ k_) ∨ w.heap.size ≤ k_))) (okp := (fun k_ => ((P0_ k_ ∨ P1_ k_) ∨ w.heap.size ≤ k_))) ?hr ?hp (fun _ hk => hk) ((show ∀ k_, w21.heap.size ≤ k_ → (fun k_ => ((P0_ k_ ∨ P1_ k_) ∨ w.heap.size ≤ k_)) k_ from fun k_ hk => (.inr (Nat.le_trans (below_size zb) hk))) _ (Nat.le_refl _)) (Below.refl _ _) (Nat.le_refl _) (by simp) ?_; (case hd => rfl); (case hg => rfl); (case hr => first | (go_simp; done) | (go_simp; rfl)); (case hp => exact (Reps.none _ _))
     intro v122 w24 ho25 hb hg_ hnew_
     clear hg_ hnew_
     (first | rw [← Ny121.out] at ho25 | (simp only [Int.reduceToNat] at ho25; rw [← Ny121.out] at ho25))
     have n0_ := aM (Kd.V_elder' (mV_ HO_0.out) (by first | exact Kd.N_base ho25 | exact Kd.S_base ho25 | exact Kd.R_base ho25) hb)
     have n1_ := aM (Kd.V_elder' (mV_ HO_1.out) (by first | exact Kd.N_base ho25 | exact Kd.S_base ho25 | exact Kd.R_base ho25) hb)
     have n2_ := aM (Kd.V_elder' (mV_ HL117_0.out) (by first | exact Kd.N_base ho25 | exact Kd.S_base ho25 | exact Kd.R_base ho25) hb)
     have n3_ := aM (Kd.V_elder' (mV_ HL119_0.out) (by first | exact Kd.N_base ho25 | exact Kd.S_base ho25 | exact Kd.R_base ho25) hb)
     have n4_ := aM (Kd.V_elder' (mV_ HO128.out) (by first | exact Kd.N_base ho25 | exact Kd.S_base ho25 | exact Kd.R_base ho25) hb)
     have n5_ := aM (Kd.V_elder' (mV_ HO142.out) (by first | exact Kd.N_base ho25 | exact Kd.S_base ho25 | exact Kd.R_base ho25) hb)
     have n6_ := aM (Kd.N_lower ho25 (below_size zb))
     have n7_ := aM (Kd.C_below (mQ_ HR117_0.out) hb)
     have n8_ := aM (Kd.C_below (mQ_ HR119_0.out) hb)
     have n9_ := aM (below_step zb hb)
     clear HO_0
     clear HO_1
     clear HL117_0
     clear HL119_0
     clear HO128
     clear HO142
     clear HR117_0
     clear HR119_0
     clear HB
     have HO_0 := n0_
     have HO_1 := n1_
     have HL117_0 := n2_
     have HL119_0 := n3_
     have HO128 := n4_
     have HO142 := n5_
     have HO123 := n6_
     have HR117_0 := n7_
     have HR119_0 := n8_
     have HB := n9_
     clear n0_ n1_ n2_ n3_ n4_ n5_ n6_ n7_ n8_ n9_
     clear hb ho25
     refine hK.out _ _ trivial (fun hHeld => ?_)
     clear hK K
     refine norm_ (a' := ?_) ?_ ?_
     rotate_left
     ·show Act.put _ (some 35) _ = _
      simp only [Act.put, xA, xB, xC, i64_w, i32_w]
      rfl
     refine two_ (i := 4) (j := 6) (Ni := some 39) (Nj := some 41) zA16 zA17 rfl rfl rfl rfl (two_of HT_.out (by kernel_rfl)) (by decide) (by decide) (fun K hK => ?_) (fun K hK => ?_)
     ·skip
      refine Kd.N_append_rows_step (Kd.slice 43 k43) (w0 := w) w.heap.size (by rfl) (.tmp 35) (.tmp 38) 28 40 (.slice none 0 0) 24 rfl Try.underlying28 info40 rfl (by decide) (by omega) v122 y121 y124 _ _ _ (fun k_ => ((P0_ k_ ∨ P1_ k_) ∨ w.heap.size ≤ k_)) (fun k_ => ((fun k_ => ((P0_ k_ ∨ P1_ k_) ∨ w.heap.size ≤ k_))) k_ ∧ some k_ ≠ (v122 : Value).ownBlock) rfl rfl ?aO ?aR (fun _ hk => hk) ?aF ?aB ?aS ?aL ?_
      (case aR => exact (by skip; exact Kd.V_F (Kd.V_mono (ok' := (fun k_ => ((fun k_ => ((P0_ k_ ∨ P1_ k_) ∨ w.heap.size ≤ k_))) k_ ∧ some k_ ≠ (v122 : Value).ownBlock)) (HO128.out) (fun k_ hk => ⟨hk.1, hk.2⟩))))
      (case aB => exact zb)
      (case aF => exact (fun k_ hk => (.inr (Nat.le_trans (below_size zb) hk))))
      (case aO => exact (mN_ HO123.out))
      (case aS => exact (below_size zb))
      (case aL => have := LMc14.out; omega)
      intro v130 w26 ho hb hg hat
      rw [← Ny129.out] at ho
      have n0_ := aM (Kd.V_afterv (ok := (fun k_ => ((P0_ k_ ∨ P1_ k_) ∨ w.heap.size ≤ k_))) (mV_ HO_0.out) hg hat)
      have n1_ := aM (Kd.V_afterv (ok := (fun k_ => ((P0_ k_ ∨ P1_ k_) ∨ w.heap.size ≤ k_))) (mV_ HO_1.out) hg hat)
      have n2_ := aM (Kd.V_afterv (ok := (fun k_ => ((P0_ k_ ∨ P1_ k_) ∨ w.heap.size ≤ k_))) (mV_ HL117_0.out) hg hat)
      have n3_ := aM (Kd.V_afterv (ok := (fun k_ => ((P0_ k_ ∨ P1_ k_) ∨ w.heap.size ≤ k_))) (mV_ HL119_0.out) hg hat)
      have n4_ := aM (Kd.V_afterv (ok := (fun k_ => ((P0_ k_ ∨ P1_ k_) ∨ w.heap.size ≤ k_))) (mV_ HO128.out) hg hat)
      have n5_ := aM (Kd.V_afterv (ok := (fun k_ => ((P0_ k_ ∨ P1_ k_) ∨ w.heap.size ≤ k_))) (mV_ HO142.out) hg hat)
      have n6_ := aM (hb)
      have n7_ := aM (ho)
      clear HO_0
      clear HO_1
      clear HL117_0
      clear HL119_0
      clear HO128
      clear HO142
      clear HB
      clear HO123
      have HO_0 := n0_
      have HO_1 := n1_
      have HL117_0 := n2_
      have HL119_0 := n3_
      have HO128 := n4_
      have HO142 := n5_
      have HB := n6_
      have HO131 := n7_
      clear n0_ n1_ n2_ n3_ n4_ n5_ n6_ n7_
      clear ho hb hg hat
      refine hK.out _ _ trivial (fun hHeld => ?_)
      clear hK K
      refine norm_ (a' := ?_) ?_ ?_
      rotate_left
      ·show Act.put _ (some 39) _ = _
       simp only [Act.put, xA, xB, xC, i64_w, i32_w]
       rfl
      refine one_ (i := 6) (N := some 41) zA13 rfl rfl (one_of HT_.out (by kernel_rfl)) (by decide) (fun K hK => ?_)
      refine Kd.N_lit_step (Kd.slice 43 k43) _ 40 ?hg (N' := 41) ?hd (xs := ([l1] : List (List (S43)))) (inner := [.slice A1 l1.length c1]) (ok := (fun k_ => ((P0_ k_ ∨ P1_ k_) ∨ w.heap.size ≤ k_) ∧ some k_ ≠ (v130 : Value).ownBlock)) (okp := (fun k_ => ((P0_ k_ ∨ P1_ k_) ∨ w.heap.size ≤ k_) ∧ some k_ ≠ (v130 : Value).ownBlock)) ?hr ?hp (fun _ hk => hk) ((show ∀ k_, w26.heap.size ≤ k_ → (fun k_ => ((P0_ k_ ∨ P1_ k_) ∨ w.heap.size ≤ k_) ∧ some k_ ≠ (v130 : Value).ownBlock) k_ from fun k_ hk => ⟨(.inr (Nat.le_trans (below_size zb) hk)), Kd.fresh' (Kd.N_lt (mN_ HO131.out)) k_ hk⟩) _ (Nat.le_refl _)) (Below.refl _ _) (Nat.le_refl _) (by simp) ?_; (case hd => rfl); (case hg => rfl); (case hr => first | (go_simp; done) | (go_simp; rfl)); (case hp => exact (Reps.one (show Kd.FK (Kd.slice 43 k43) _ _ l1 [.slice A1 l1.length c1] from (Kd.FK_slice_mk (Kd.V_reads' (Kd.V_mono (ok' := (fun k_ => ((P0_ k_ ∨ P1_ k_) ∨ w.heap.size ≤ k_) ∧ some k_ ≠ (v130 : Value).ownBlock)) (HO_1.out) (fun k_ hk => ⟨hk.1, hk.2⟩))).2.1 (Kd.V_F (Kd.V_mono (ok' := (fun k_ => ((P0_ k_ ∨ P1_ k_) ∨ w.heap.size ≤ k_) ∧ some k_ ≠ (v130 : Value).ownBlock)) (HO_1.out) (fun k_ hk => ⟨hk.1, hk.2⟩))))) (Reps.none _ _)))
      intro v133 w27 ho28 hb hg_ hnew_
      clear hg_ hnew_
      (first | rw [← Ny132.out] at ho28 | (simp only [Int.reduceToNat] at ho28; rw [← Ny132.out] at ho28))
      have n0_ := aM (Kd.V_elder' (mV_ HO_0.out) (by first | exact Kd.N_base ho28 | exact Kd.S_base ho28 | exact Kd.R_base ho28) hb)
      have n1_ := aM (Kd.V_elder' (mV_ HO_1.out) (by first | exact Kd.N_base ho28 | exact Kd.S_base ho28 | exact Kd.R_base ho28) hb)
      have n2_ := aM (Kd.V_elder' (mV_ HL117_0.out) (by first | exact Kd.N_base ho28 | exact Kd.S_base ho28 | exact Kd.R_base ho28) hb)
      have n3_ := aM (Kd.V_elder' (mV_ HL119_0.out) (by first | exact Kd.N_base ho28 | exact Kd.S_base ho28 | exact Kd.R_base ho28) hb)
      have n4_ := aM (Kd.V_elder' (mV_ HO128.out) (by first | exact Kd.N_base ho28 | exact Kd.S_base ho28 | exact Kd.R_base ho28) hb)
      have n5_ := aM (Kd.V_elder' (mV_ HO142.out) (by first | exact Kd.N_base ho28 | exact Kd.S_base ho28 | exact Kd.R_base ho28) hb)
      have n6_ := aM (Kd.N_elder' (mN_ HO131.out) (by first | exact Kd.N_base ho28 | exact Kd.S_base ho28 | exact Kd.R_base ho28) hb)
      have n7_ := aM (Kd.N_lower ho28 (below_size zb))
      have n8_ := aM (below_step zb hb)
      clear HO_0
      clear HO_1
      clear HL117_0
      clear HL119_0
      clear HO128
      clear HO142
      clear HO131
      clear HB
      have HO_0 := n0_
      have HO_1 := n1_
      have HL117_0 := n2_
      have HL119_0 := n3_
      have HO128 := n4_
      have HO142 := n5_
      have HO131 := n6_
      have HO134 := n7_
      have HB := n8_
      clear n0_ n1_ n2_ n3_ n4_ n5_ n6_ n7_ n8_
      clear hb ho28
      refine hK.out _ _ trivial (fun hHeld => ?_)
      clear hK K
      refine norm_ (a' := ?_) ?_ ?_
      rotate_left
      ·show Act.put _ (some 41) _ = _
       simp only [Act.put, xA, xB, xC, i64_w, i32_w]
       rfl
      exact norm_ (by simp only [putAll, Act.put, xA, xB, xC]) (hCont (v122, v130, v133) _ ⟨(zd0 HL117_0.out), (zd0 HL119_0.out), (zd0 HO128.out), (mN_ HO131.out), (mN_ HO134.out), (zd0 HO142.out), (zd0 HO_0.out), (zd0 HO_1.out), zb⟩)
     ·skip
      refine Kd.N_lit_step (Kd.slice 43 k43) _ 40 ?hg (N' := 41) ?hd (xs := ([l1] : List (List (S43)))) (inner := [.slice A1 l1.length c1]) (ok := (fun k_ => ((P0_ k_ ∨ P1_ k_) ∨ w.heap.size ≤ k_) ∧ some k_ ≠ (v122 : Value).ownBlock)) (okp := (fun k_ => ((P0_ k_ ∨ P1_ k_) ∨ w.heap.size ≤ k_) ∧ some k_ ≠ (v122 : Value).ownBlock)) ?hr ?hp (fun _ hk => hk) ((show ∀ k_, w24.heap.size ≤ k_ → (fun k_ => ((P0_ k_ ∨ P1_ k_) ∨ w.heap.size ≤ k_) ∧ some k_ ≠ (v122 : Value).ownBlock) k_ from fun k_ hk => ⟨(.inr (Nat.le_trans (below_size zb) hk)), Kd.fresh' (Kd.N_lt (mN_ HO123.out)) k_ hk⟩) _ (Nat.le_refl _)) (Below.refl _ _) (Nat.le_refl _) (by simp) ?_; (case hd => rfl); (case hg => rfl); (case hr => first | (go_simp; done) | (go_simp; rfl)); (case hp => exact (Reps.one (show Kd.FK (Kd.slice 43 k43) _ _ l1 [.slice A1 l1.length c1] from (Kd.FK_slice_mk (Kd.V_reads' (Kd.V_mono (ok' := (fun k_ => ((P0_ k_ ∨ P1_ k_) ∨ w.heap.size ≤ k_) ∧ some k_ ≠ (v122 : Value).ownBlock)) (HO_1.out) (fun k_ hk => ⟨hk.1, hk.2⟩))).2.1 (Kd.V_F (Kd.V_mono (ok' := (fun k_ => ((P0_ k_ ∨ P1_ k_) ∨ w.heap.size ≤ k_) ∧ some k_ ≠ (v122 : Value).ownBlock)) (HO_1.out) (fun k_ hk => ⟨hk.1, hk.2⟩))))) (Reps.none _ _)))
      intro v133 w26 ho27 hb hg_ hnew_
      clear hg_ hnew_
      (first | rw [← Ny132.out] at ho27 | (simp only [Int.reduceToNat] at ho27; rw [← Ny132.out] at ho27))
      have n0_ := aM (Kd.V_elder' (mV_ HO_0.out) (by first | exact Kd.N_base ho27 | exact Kd.S_base ho27 | exact Kd.R_base ho27) hb)
      have n1_ := aM (Kd.V_elder' (mV_ HO_1.out) (by first | exact Kd.N_base ho27 | exact Kd.S_base ho27 | exact Kd.R_base ho27) hb)
      have n2_ := aM (Kd.V_elder' (mV_ HL117_0.out) (by first | exact Kd.N_base ho27 | exact Kd.S_base ho27 | exact Kd.R_base ho27) hb)
      have n3_ := aM (Kd.V_elder' (mV_ HL119_0.out) (by first | exact Kd.N_base ho27 | exact Kd.S_base ho27 | exact Kd.R_base ho27) hb)
      have n4_ := aM (Kd.V_elder' (mV_ HO128.out) (by first | exact Kd.N_base ho27 | exact Kd.S_base ho27 | exact Kd.R_base ho27) hb)
      have n5_ := aM (Kd.V_elder' (mV_ HO142.out) (by first | exact Kd.N_base ho27 | exact Kd.S_base ho27 | exact Kd.R_base ho27) hb)
      have n6_ := aM (Kd.N_elder' (mN_ HO123.out) (by first | exact Kd.N_base ho27 | exact Kd.S_base ho27 | exact Kd.R_base ho27) hb)
      have n7_ := aM (Kd.N_lower ho27 (below_size zb))
      have n8_ := aM (Kd.C_below (mQ_ HR117_0.out) hb)
      have n9_ := aM (Kd.C_below (mQ_ HR119_0.out) hb)
      have n10_ := aM (below_step zb hb)
      clear HO_0
      clear HO_1
      clear HL117_0
      clear HL119_0
      clear HO128
      clear HO142
      clear HO123
      clear HR117_0
      clear HR119_0
      clear HB
      have HO_0 := n0_
      have HO_1 := n1_
      have HL117_0 := n2_
      have HL119_0 := n3_
      have HO128 := n4_
      have HO142 := n5_
      have HO123 := n6_
      have HO134 := n7_
      have HR117_0 := n8_
      have HR119_0 := n9_
      have HB := n10_
      clear n0_ n1_ n2_ n3_ n4_ n5_ n6_ n7_ n8_ n9_ n10_
      clear hb ho27
      refine hK.out _ _ trivial (fun hHeld => ?_)
      clear hK K
      refine norm_ (a' := ?_) ?_ ?_
      rotate_left
      ·show Act.put _ (some 41) _ = _
       simp only [Act.put, xA, xB, xC, i64_w, i32_w]
       rfl
      refine one_ (i := 4) (N := some 39) zA13 rfl rfl (one_of HT_.out (by kernel_rfl)) (by decide) (fun K hK => ?_)
      refine Kd.N_append_rows_step (Kd.slice 43 k43) (w0 := w) w.heap.size (by rfl) (.tmp 35) (.tmp 38) 28 40 (.slice none 0 0) 24 rfl Try.underlying28 info40 rfl (by decide) (by omega) v122 y121 y124 _ _ _ (fun k_ => ((P0_ k_ ∨ P1_ k_) ∨ w.heap.size ≤ k_) ∧ some k_ ≠ (v133 : Value).ownBlock) (fun k_ => ((fun k_ => ((P0_ k_ ∨ P1_ k_) ∨ w.heap.size ≤ k_) ∧ some k_ ≠ (v133 : Value).ownBlock)) k_ ∧ some k_ ≠ (v122 : Value).ownBlock) rfl rfl ?aO ?aR (fun _ hk => hk) ?aF ?aB ?aS ?aL ?_
      (case aR => exact (by skip; exact Kd.V_F (Kd.V_mono (ok' := (fun k_ => ((fun k_ => ((P0_ k_ ∨ P1_ k_) ∨ w.heap.size ≤ k_) ∧ some k_ ≠ (v133 : Value).ownBlock)) k_ ∧ some k_ ≠ (v122 : Value).ownBlock)) (HO128.out) (fun k_ hk => ⟨⟨hk.1.1, hk.2⟩, hk.1.2⟩))))
      (case aB => exact zb)
      (case aF => exact (fun k_ hk => ⟨(.inr (Nat.le_trans (below_size zb) hk)), Kd.fresh' (Kd.N_lt (mN_ HO134.out)) k_ hk⟩))
      (case aO => exact (mN_ HO123.out))
      (case aS => exact (below_size zb))
      (case aL => have := LMc14.out; omega)
      intro v130 w28 ho hb hg hat
      rw [← Ny129.out] at ho
      have n0_ := aM (Kd.V_afterv (ok := (fun k_ => ((P0_ k_ ∨ P1_ k_) ∨ w.heap.size ≤ k_) ∧ some k_ ≠ (v133 : Value).ownBlock)) (zd1 HO_0.out) hg hat)
      have n1_ := aM (Kd.V_afterv (ok := (fun k_ => ((P0_ k_ ∨ P1_ k_) ∨ w.heap.size ≤ k_) ∧ some k_ ≠ (v133 : Value).ownBlock)) (zd1 HO_1.out) hg hat)
      have n2_ := aM (Kd.V_afterv (ok := (fun k_ => ((P0_ k_ ∨ P1_ k_) ∨ w.heap.size ≤ k_) ∧ some k_ ≠ (v133 : Value).ownBlock)) (zd1 HL117_0.out) hg hat)
      have n3_ := aM (Kd.V_afterv (ok := (fun k_ => ((P0_ k_ ∨ P1_ k_) ∨ w.heap.size ≤ k_) ∧ some k_ ≠ (v133 : Value).ownBlock)) (zd1 HL119_0.out) hg hat)
      have n4_ := aM (Kd.V_afterv (ok := (fun k_ => ((P0_ k_ ∨ P1_ k_) ∨ w.heap.size ≤ k_) ∧ some k_ ≠ (v133 : Value).ownBlock)) (zd1 HO128.out) hg hat)
      have n5_ := aM (Kd.V_afterv (ok := (fun k_ => ((P0_ k_ ∨ P1_ k_) ∨ w.heap.size ≤ k_) ∧ some k_ ≠ (v133 : Value).ownBlock)) (zd1 HO142.out) hg hat)
      have n6_ := aM (Kd.N_afterv (ok := (fun k_ => ((P0_ k_ ∨ P1_ k_) ∨ w.heap.size ≤ k_))) (mN_ HO134.out) hg hat)
      have n7_ := aM (hb)
      have n8_ := aM (ho)
      clear HO_0
      clear HO_1
      clear HL117_0
      clear HL119_0
      clear HO128
      clear HO142
      clear HO134
      clear HB
      clear HO123
      have HO_0 := n0_
      have HO_1 := n1_
      have HL117_0 := n2_
      have HL119_0 := n3_
      have HO128 := n4_
      have HO142 := n5_
      have HO134 := n6_
      have HB := n7_
      have HO131 := n8_
      clear n0_ n1_ n2_ n3_ n4_ n5_ n6_ n7_ n8_
      clear ho hb hg hat
      refine hK.out _ _ trivial (fun hHeld => ?_)
      clear hK K
      refine norm_ (a' := ?_) ?_ ?_
      rotate_left
      ·show Act.put _ (some 39) _ = _
       simp only [Act.put, xA, xB, xC, i64_w, i32_w]
       rfl
      exact norm_ (by simp only [putAll, Act.put, xA, xB, xC]) (hCont (v122, v130, v133) _ ⟨(zd2 HL117_0.out), (zd2 HL119_0.out), (zd2 HO128.out), (mN_ HO131.out), (mN_ HO134.out), (zd2 HO142.out), (zd2 HO_0.out), (zd2 HO_1.out), zb⟩)
    ·skip
     refine Kd.N_lit_step (Kd.slice 43 k43) _ 40 ?hg (N' := 41) ?hd (xs := ([l1] : List (List (S43)))) (inner := [.slice A1 l1.length c1]) (ok := (fun k_ => ((P0_ k_ ∨ P1_ k_) ∨ w.heap.size ≤ k_))) (okp := (fun k_ => ((P0_ k_ ∨ P1_ k_) ∨ w.heap.size ≤ k_))) ?hr ?hp (fun _ hk => hk) ((show ∀ k_, w21.heap.size ≤ k_ → (fun k_ => ((P0_ k_ ∨ P1_ k_) ∨ w.heap.size ≤ k_)) k_ from fun k_ hk => (.inr (Nat.le_trans (below_size zb) hk))) _ (Nat.le_refl _)) (Below.refl _ _) (Nat.le_refl _) (by simp) ?_; (case hd => rfl); (case hg => rfl); (case hr => first | (go_simp; done) | (go_simp; rfl)); (case hp => exact (Reps.one (show Kd.FK (Kd.slice 43 k43) _ _ l1 [.slice A1 l1.length c1] from (Kd.FK_slice_mk (Kd.V_reads' (Kd.V_mono (ok' := (fun k_ => ((P0_ k_ ∨ P1_ k_) ∨ w.heap.size ≤ k_))) (HO_1.out) (fun k_ hk => hk))).2.1 (Kd.V_F (Kd.V_mono (ok' := (fun k_ => ((P0_ k_ ∨ P1_ k_) ∨ w.heap.size ≤ k_))) (HO_1.out) (fun k_ hk => hk))))) (Reps.none _ _)))
     intro v133 w24 ho25 hb hg_ hnew_
     clear hg_ hnew_
     (first | rw [← Ny132.out] at ho25 | (simp only [Int.reduceToNat] at ho25; rw [← Ny132.out] at ho25))
     have n0_ := aM (Kd.V_elder' (mV_ HO_0.out) (by first | exact Kd.N_base ho25 | exact Kd.S_base ho25 | exact Kd.R_base ho25) hb)
     have n1_ := aM (Kd.V_elder' (mV_ HO_1.out) (by first | exact Kd.N_base ho25 | exact Kd.S_base ho25 | exact Kd.R_base ho25) hb)
     have n2_ := aM (Kd.V_elder' (mV_ HL117_0.out) (by first | exact Kd.N_base ho25 | exact Kd.S_base ho25 | exact Kd.R_base ho25) hb)
     have n3_ := aM (Kd.V_elder' (mV_ HL119_0.out) (by first | exact Kd.N_base ho25 | exact Kd.S_base ho25 | exact Kd.R_base ho25) hb)
     have n4_ := aM (Kd.V_elder' (mV_ HO128.out) (by first | exact Kd.N_base ho25 | exact Kd.S_base ho25 | exact Kd.R_base ho25) hb)
     have n5_ := aM (Kd.V_elder' (mV_ HO142.out) (by first | exact Kd.N_base ho25 | exact Kd.S_base ho25 | exact Kd.R_base ho25) hb)
     have n6_ := aM (Kd.N_lower ho25 (below_size zb))
     have n7_ := aM (Kd.C_below (mQ_ HR117_0.out) hb)
     have n8_ := aM (Kd.C_below (mQ_ HR119_0.out) hb)
     have n9_ := aM (below_step zb hb)
     clear HO_0
     clear HO_1
     clear HL117_0
     clear HL119_0
     clear HO128
     clear HO142
     clear HR117_0
     clear HR119_0
     clear HB
     have HO_0 := n0_
     have HO_1 := n1_
     have HL117_0 := n2_
     have HL119_0 := n3_
     have HO128 := n4_
     have HO142 := n5_
     have HO134 := n6_
     have HR117_0 := n7_
     have HR119_0 := n8_
     have HB := n9_
     clear n0_ n1_ n2_ n3_ n4_ n5_ n6_ n7_ n8_ n9_
     clear hb ho25
     refine hK.out _ _ trivial (fun hHeld => ?_)
     clear hK K
     refine norm_ (a' := ?_) ?_ ?_
     rotate_left
     ·show Act.put _ (some 41) _ = _
      simp only [Act.put, xA, xB, xC, i64_w, i32_w]
      rfl
     refine one_ (i := 0) (N := some 35) zA17 rfl rfl (one_of HT_.out (by kernel_rfl)) (by decide) (fun K hK => ?_)
     refine Kd.N_lit_step (Kd.slice 43 k43) _ 40 ?hg (N' := 35) ?hd (xs := ([] : List (List (S43)))) (inner := []) (ok := (fun k_ => ((P0_ k_ ∨ P1_ k_) ∨ w.heap.size ≤ k_) ∧ some k_ ≠ (v133 : Value).ownBlock)) (okp := (fun k_ => ((P0_ k_ ∨ P1_ k_) ∨ w.heap.size ≤ k_) ∧ some k_ ≠ (v133 : Value).ownBlock)) ?hr ?hp (fun _ hk => hk) ((show ∀ k_, w24.heap.size ≤ k_ → (fun k_ => ((P0_ k_ ∨ P1_ k_) ∨ w.heap.size ≤ k_) ∧ some k_ ≠ (v133 : Value).ownBlock) k_ from fun k_ hk => ⟨(.inr (Nat.le_trans (below_size zb) hk)), Kd.fresh' (Kd.N_lt (mN_ HO134.out)) k_ hk⟩) _ (Nat.le_refl _)) (Below.refl _ _) (Nat.le_refl _) (by simp) ?_; (case hd => rfl); (case hg => rfl); (case hr => first | (go_simp; done) | (go_simp; rfl)); (case hp => exact (Reps.none _ _))
     intro v122 w26 ho27 hb hg_ hnew_
     clear hg_ hnew_
     (first | rw [← Ny121.out] at ho27 | (simp only [Int.reduceToNat] at ho27; rw [← Ny121.out] at ho27))
     have n0_ := aM (Kd.V_elder' (mV_ HO_0.out) (by first | exact Kd.N_base ho27 | exact Kd.S_base ho27 | exact Kd.R_base ho27) hb)
     have n1_ := aM (Kd.V_elder' (mV_ HO_1.out) (by first | exact Kd.N_base ho27 | exact Kd.S_base ho27 | exact Kd.R_base ho27) hb)
     have n2_ := aM (Kd.V_elder' (mV_ HL117_0.out) (by first | exact Kd.N_base ho27 | exact Kd.S_base ho27 | exact Kd.R_base ho27) hb)
     have n3_ := aM (Kd.V_elder' (mV_ HL119_0.out) (by first | exact Kd.N_base ho27 | exact Kd.S_base ho27 | exact Kd.R_base ho27) hb)
     have n4_ := aM (Kd.V_elder' (mV_ HO128.out) (by first | exact Kd.N_base ho27 | exact Kd.S_base ho27 | exact Kd.R_base ho27) hb)
     have n5_ := aM (Kd.V_elder' (mV_ HO142.out) (by first | exact Kd.N_base ho27 | exact Kd.S_base ho27 | exact Kd.R_base ho27) hb)
     have n6_ := aM (Kd.N_elder' (mN_ HO134.out) (by first | exact Kd.N_base ho27 | exact Kd.S_base ho27 | exact Kd.R_base ho27) hb)
     have n7_ := aM (Kd.N_lower ho27 (below_size zb))
     have n8_ := aM (Kd.C_below (mQ_ HR117_0.out) hb)
     have n9_ := aM (Kd.C_below (mQ_ HR119_0.out) hb)
     have n10_ := aM (below_step zb hb)
     clear HO_0
     clear HO_1
     clear HL117_0
     clear HL119_0
     clear HO128
     clear HO142
     clear HO134
     clear HR117_0
     clear HR119_0
     clear HB
     have HO_0 := n0_
     have HO_1 := n1_
     have HL117_0 := n2_
     have HL119_0 := n3_
     have HO128 := n4_
     have HO142 := n5_
     have HO134 := n6_
     have HO123 := n7_
     have HR117_0 := n8_
     have HR119_0 := n9_
     have HB := n10_
     clear n0_ n1_ n2_ n3_ n4_ n5_ n6_ n7_ n8_ n9_ n10_
     clear hb ho27
     refine hK.out _ _ trivial (fun hHeld => ?_)
     clear hK K
     refine norm_ (a' := ?_) ?_ ?_
     rotate_left
     ·show Act.put _ (some 35) _ = _
      simp only [Act.put, xA, xB, xC, i64_w, i32_w]
      rfl
     refine one_ (i := 4) (N := some 39) zA13 rfl rfl (one_of HT_.out (by kernel_rfl)) (by decide) (fun K hK => ?_)
     refine Kd.N_append_rows_step (Kd.slice 43 k43) (w0 := w) w.heap.size (by rfl) (.tmp 35) (.tmp 38) 28 40 (.slice none 0 0) 24 rfl Try.underlying28 info40 rfl (by decide) (by omega) v122 y121 y124 _ _ _ (fun k_ => ((P0_ k_ ∨ P1_ k_) ∨ w.heap.size ≤ k_) ∧ some k_ ≠ (v133 : Value).ownBlock) (fun k_ => ((fun k_ => ((P0_ k_ ∨ P1_ k_) ∨ w.heap.size ≤ k_) ∧ some k_ ≠ (v133 : Value).ownBlock)) k_ ∧ some k_ ≠ (v122 : Value).ownBlock) rfl rfl ?aO ?aR (fun _ hk => hk) ?aF ?aB ?aS ?aL ?_
     (case aR => exact (by skip; exact Kd.V_F (Kd.V_mono (ok' := (fun k_ => ((fun k_ => ((P0_ k_ ∨ P1_ k_) ∨ w.heap.size ≤ k_) ∧ some k_ ≠ (v133 : Value).ownBlock)) k_ ∧ some k_ ≠ (v122 : Value).ownBlock)) (HO128.out) (fun k_ hk => ⟨⟨hk.1.1, hk.1.2⟩, hk.2⟩))))
     (case aB => exact zb)
     (case aF => exact (fun k_ hk => ⟨(.inr (Nat.le_trans (below_size zb) hk)), Kd.fresh' (Kd.N_lt (mN_ HO134.out)) k_ hk⟩))
     (case aO => exact (mN_ HO123.out))
     (case aS => exact (below_size zb))
     (case aL => have := LMc14.out; omega)
     intro v130 w28 ho hb hg hat
     rw [← Ny129.out] at ho
     have n0_ := aM (Kd.V_afterv (ok := (fun k_ => ((P0_ k_ ∨ P1_ k_) ∨ w.heap.size ≤ k_) ∧ some k_ ≠ (v133 : Value).ownBlock)) (mV_ HO_0.out) hg hat)
     have n1_ := aM (Kd.V_afterv (ok := (fun k_ => ((P0_ k_ ∨ P1_ k_) ∨ w.heap.size ≤ k_) ∧ some k_ ≠ (v133 : Value).ownBlock)) (mV_ HO_1.out) hg hat)
     have n2_ := aM (Kd.V_afterv (ok := (fun k_ => ((P0_ k_ ∨ P1_ k_) ∨ w.heap.size ≤ k_) ∧ some k_ ≠ (v133 : Value).ownBlock)) (mV_ HL117_0.out) hg hat)
     have n3_ := aM (Kd.V_afterv (ok := (fun k_ => ((P0_ k_ ∨ P1_ k_) ∨ w.heap.size ≤ k_) ∧ some k_ ≠ (v133 : Value).ownBlock)) (mV_ HL119_0.out) hg hat)
     have n4_ := aM (Kd.V_afterv (ok := (fun k_ => ((P0_ k_ ∨ P1_ k_) ∨ w.heap.size ≤ k_) ∧ some k_ ≠ (v133 : Value).ownBlock)) (mV_ HO128.out) hg hat)
     have n5_ := aM (Kd.V_afterv (ok := (fun k_ => ((P0_ k_ ∨ P1_ k_) ∨ w.heap.size ≤ k_) ∧ some k_ ≠ (v133 : Value).ownBlock)) (mV_ HO142.out) hg hat)
     have n6_ := aM (Kd.N_afterv (ok := (fun k_ => ((P0_ k_ ∨ P1_ k_) ∨ w.heap.size ≤ k_))) (mN_ HO134.out) hg hat)
     have n7_ := aM (hb)
     have n8_ := aM (ho)
     clear HO_0
     clear HO_1
     clear HL117_0
     clear HL119_0
     clear HO128
     clear HO142
     clear HO134
     clear HB
     clear HO123
     have HO_0 := n0_
     have HO_1 := n1_
     have HL117_0 := n2_
     have HL119_0 := n3_
     have HO128 := n4_
     have HO142 := n5_
     have HO134 := n6_
     have HB := n7_
     have HO131 := n8_
     clear n0_ n1_ n2_ n3_ n4_ n5_ n6_ n7_ n8_
     clear ho hb hg hat
     refine hK.out _ _ trivial (fun hHeld => ?_)
     clear hK K
     refine norm_ (a' := ?_) ?_ ?_
     rotate_left
     ·show Act.put _ (some 39) _ = _
      simp only [Act.put, xA, xB, xC, i64_w, i32_w]
      rfl
     exact norm_ (by simp only [putAll, Act.put, xA, xB, xC]) (hCont (v122, v130, v133) _ ⟨(zd2 HL117_0.out), (zd2 HL119_0.out), (zd2 HO128.out), (mN_ HO131.out), (mN_ HO134.out), (zd2 HO142.out), (zd2 HO_0.out), (zd2 HO_1.out), zb⟩)
   rintro ⟨v122, v130, v133⟩ w29 ⟨h0_, h1_, h2_, h3_, h4_, h5_, h6_, h7_, h8_⟩
   have n0_ : Aside0 (Kd.V k43 43 w29 w.heap.size (fun k_ => ((P0_ k_ ∨ P1_ k_) ∨ w.heap.size ≤ k_) ∧ some k_ ≠ (v130 : Value).ownBlock ∧ some k_ ≠ (v133 : Value).ownBlock) (.slice A117_0 (rd_L2 l0 x5_1).length c117_0) (rd_L2 l0 x5_1)) := ⟨h0_⟩
   have n1_ : Aside0 (Kd.V k43 43 w29 w.heap.size (fun k_ => ((P0_ k_ ∨ P1_ k_) ∨ w.heap.size ≤ k_) ∧ some k_ ≠ (v130 : Value).ownBlock ∧ some k_ ≠ (v133 : Value).ownBlock) (.slice A119_0 (rd_L2 l0 x5_1).length c119_0) (rd_L2 l0 x5_1)) := ⟨h1_⟩
   have n2_ : Aside0 (Kd.V (Kd.slice 43 k43) 40 w29 w.heap.size (fun k_ => ((P0_ k_ ∨ P1_ k_) ∨ w.heap.size ≤ k_) ∧ some k_ ≠ (v130 : Value).ownBlock ∧ some k_ ≠ (v133 : Value).ownBlock) (.slice (some ad117) y124.length c0) y124) := ⟨h2_⟩
   have n3_ : Aside0 (Kd.N (Kd.slice 43 k43) 40 w29 w.heap.size (fun k_ => ((P0_ k_ ∨ P1_ k_) ∨ w.heap.size ≤ k_) ∧ some k_ ≠ (v133 : Value).ownBlock) v130 y129) := ⟨h3_⟩
   have n4_ : Aside0 (Kd.N (Kd.slice 43 k43) 40 w29 w.heap.size (fun k_ => ((P0_ k_ ∨ P1_ k_) ∨ w.heap.size ≤ k_) ∧ some k_ ≠ (v130 : Value).ownBlock) v133 y132) := ⟨h4_⟩
   have n5_ : Aside0 (Kd.V (Kd.slice 43 k43) 40 w29 w.heap.size (fun k_ => ((P0_ k_ ∨ P1_ k_) ∨ w.heap.size ≤ k_) ∧ some k_ ≠ (v130 : Value).ownBlock ∧ some k_ ≠ (v133 : Value).ownBlock) (.slice A23 y138.length c23) y138) := ⟨h5_⟩
   have n6_ : Aside0 (Kd.V (Kd.slice 43 k43) 40 w29 w.heap.size (fun k_ => ((P0_ k_ ∨ P1_ k_) ∨ w.heap.size ≤ k_) ∧ some k_ ≠ (v130 : Value).ownBlock ∧ some k_ ≠ (v133 : Value).ownBlock) (.slice (some ad117) l0.length c0) l0) := ⟨h6_⟩
   have n7_ : Aside0 (Kd.V k43 43 w29 w.heap.size (fun k_ => ((P0_ k_ ∨ P1_ k_) ∨ w.heap.size ≤ k_) ∧ some k_ ≠ (v130 : Value).ownBlock ∧ some k_ ≠ (v133 : Value).ownBlock) (.slice A1 l1.length c1) l1) := ⟨h7_⟩
   have n8_ : Aside0 (Below w.heap.size w w29) := ⟨h8_⟩
   clear HO_0
   clear HO_1
   clear HL117_0
   clear HL119_0
   clear HR117_0
   clear HR119_0
   clear HB
   clear h0_ h1_ h2_ h3_ h4_ h5_ h6_ h7_ h8_
   have HL117_0 := n0_
   have HL119_0 := n1_
   have HO128 := n2_
   have HO131 := n3_
   have HO134 := n4_
   have HO142 := n5_
   have HO_0 := n6_
   have HO_1 := n7_
   have HB := n8_
   clear n0_ n1_ n2_ n3_ n4_ n5_ n6_ n7_ n8_
   have hHeld := trivial
   obtain ⟨Ao31, co31, eo31⟩ := Kd.N_slice HO134.out
   (first | subst eo31 | (injection eo31 with f1_ f2_ f3_; have f4_ := f1_.symm; have f5_ := f3_.symm; clear f1_ f2_ f3_; subst f4_; subst f5_))
   refine norm_ (a' := ?_) ?_ ?_
   rotate_left
   ·simp only [putAll, Act.put, xA, xB, xC]
    rfl
   refine one_ (i := 7) (N := some 42) zA18 rfl rfl (one_of HT_.out (by kernel_rfl)) (by decide) (fun K hK => ?_)
   refine Kd.N_append_rows_step (Kd.slice 43 k43) (w0 := w) w.heap.size (by rfl) (.tmp 39) (.tmp 41) 28 40 (.slice none 0 0) 24 rfl Try.underlying28 info40 rfl (by decide) (by omega) v130 y129 y132 _ _ _ (fun k_ => ((P0_ k_ ∨ P1_ k_) ∨ w.heap.size ≤ k_)) (fun k_ => ((fun k_ => ((P0_ k_ ∨ P1_ k_) ∨ w.heap.size ≤ k_))) k_ ∧ some k_ ≠ (v130 : Value).ownBlock) rfl rfl ?aO ?aR (fun _ hk => hk) ?aF ?aB ?aS ?aL ?_
   (case aR => exact (by skip; exact Kd.N_F (Kd.N_mono (ok' := (fun k_ => ((fun k_ => ((P0_ k_ ∨ P1_ k_) ∨ w.heap.size ≤ k_))) k_ ∧ some k_ ≠ (v130 : Value).ownBlock)) (HO134.out) (fun k_ hk => ⟨hk.1, hk.2⟩))))
   (case aB => exact zb)
   (case aF => exact (fun k_ hk => (.inr (Nat.le_trans (below_size zb) hk))))
   (case aO => exact (zd4 HO131.out))
   (case aS => exact (below_size zb))
   (case aL => have := LMc15.out; omega)
   intro v136 w30 ho hb hg hat
   rw [← Ny135.out] at ho
   have n0_ := aM (Kd.V_afterv (ok := (fun k_ => ((P0_ k_ ∨ P1_ k_) ∨ w.heap.size ≤ k_) ∧ some k_ ≠ (.slice Ao31 y132.length co31 : Value).ownBlock)) (zd3 HO_0.out) hg hat)
   have n1_ := aM (Kd.V_afterv (ok := (fun k_ => ((P0_ k_ ∨ P1_ k_) ∨ w.heap.size ≤ k_) ∧ some k_ ≠ (.slice Ao31 y132.length co31 : Value).ownBlock)) (zd3 HO_1.out) hg hat)
   have n2_ := aM (Kd.V_afterv (ok := (fun k_ => ((P0_ k_ ∨ P1_ k_) ∨ w.heap.size ≤ k_) ∧ some k_ ≠ (.slice Ao31 y132.length co31 : Value).ownBlock)) (zd3 HL117_0.out) hg hat)
   have n3_ := aM (Kd.V_afterv (ok := (fun k_ => ((P0_ k_ ∨ P1_ k_) ∨ w.heap.size ≤ k_) ∧ some k_ ≠ (.slice Ao31 y132.length co31 : Value).ownBlock)) (zd3 HL119_0.out) hg hat)
   have n4_ := aM (Kd.V_afterv (ok := (fun k_ => ((P0_ k_ ∨ P1_ k_) ∨ w.heap.size ≤ k_) ∧ some k_ ≠ (.slice Ao31 y132.length co31 : Value).ownBlock)) (zd3 HO128.out) hg hat)
   have n5_ := aM (Kd.V_afterv (ok := (fun k_ => ((P0_ k_ ∨ P1_ k_) ∨ w.heap.size ≤ k_) ∧ some k_ ≠ (.slice Ao31 y132.length co31 : Value).ownBlock)) (zd3 HO142.out) hg hat)
   have n6_ := aM (Kd.N_afterv (ok := (fun k_ => ((P0_ k_ ∨ P1_ k_) ∨ w.heap.size ≤ k_))) (mN_ HO134.out) hg hat)
   have n7_ := aM (hb)
   have n8_ := aM (ho)
   clear HO_0
   clear HO_1
   clear HL117_0
   clear HL119_0
   clear HO128
   clear HO142
   clear HO134
   clear HB
   clear HO131
   have HO_0 := n0_
   have HO_1 := n1_
   have HL117_0 := n2_
   have HL119_0 := n3_
   have HO128 := n4_
   have HO142 := n5_
   have HO134 := n6_
   have HB := n7_
   have HO137 := n8_
   clear n0_ n1_ n2_ n3_ n4_ n5_ n6_ n7_ n8_
   clear ho hb hg hat
   refine hK.out _ _ trivial (fun hHeld => ?_)
   clear hK K
   refine norm_ (a' := ?_) ?_ ?_
   rotate_left
   ·show Act.put _ (some 42) _ = _
    simp only [Act.put, xA, xB, xC, i64_w, i32_w]
    rfl
   refine one_ (i := 11) (N := some 46) zA19 rfl rfl (one_of HT_.out (by kernel_rfl)) (by decide) (fun K hK => ?_)
   refine Kd.N_append_rows_step (Kd.slice 43 k43) (w0 := w) w.heap.size (by rfl) (.tmp 42) (.tmp 45) 28 40 (.slice none 0 0) 24 rfl Try.underlying28 info40 rfl (by decide) (by omega) v136 y135 y138 _ _ _ (fun k_ => ((P0_ k_ ∨ P1_ k_) ∨ w.heap.size ≤ k_)) (fun k_ => ((fun k_ => ((P0_ k_ ∨ P1_ k_) ∨ w.heap.size ≤ k_))) k_ ∧ some k_ ≠ (v136 : Value).ownBlock) rfl rfl ?aO ?aR (fun _ hk => hk) ?aF ?aB ?aS ?aL ?_
   (case aR => exact (by skip; exact Kd.V_F (Kd.V_mono (ok' := (fun k_ => ((fun k_ => ((P0_ k_ ∨ P1_ k_) ∨ w.heap.size ≤ k_))) k_ ∧ some k_ ≠ (v136 : Value).ownBlock)) (HO142.out) (fun k_ hk => ⟨hk.1.1, hk.2⟩))))
   (case aB => exact zb)
   (case aF => exact (fun k_ hk => (.inr (Nat.le_trans (below_size zb) hk))))
   (case aO => exact (mN_ HO137.out))
   (case aS => exact (below_size zb))
   (case aL => have := LMc18.out; omega)
   intro v144 w32 ho hb hg hat
   rw [← Ny143.out] at ho
   have n0_ := aM (Kd.V_afterv (ok := (fun k_ => ((P0_ k_ ∨ P1_ k_) ∨ w.heap.size ≤ k_) ∧ some k_ ≠ (.slice Ao31 y132.length co31 : Value).ownBlock)) (mV_ HO_0.out) hg hat)
   have n1_ := aM (Kd.V_afterv (ok := (fun k_ => ((P0_ k_ ∨ P1_ k_) ∨ w.heap.size ≤ k_) ∧ some k_ ≠ (.slice Ao31 y132.length co31 : Value).ownBlock)) (mV_ HO_1.out) hg hat)
   have n2_ := aM (Kd.V_afterv (ok := (fun k_ => ((P0_ k_ ∨ P1_ k_) ∨ w.heap.size ≤ k_) ∧ some k_ ≠ (.slice Ao31 y132.length co31 : Value).ownBlock)) (mV_ HL117_0.out) hg hat)
   have n3_ := aM (Kd.V_afterv (ok := (fun k_ => ((P0_ k_ ∨ P1_ k_) ∨ w.heap.size ≤ k_) ∧ some k_ ≠ (.slice Ao31 y132.length co31 : Value).ownBlock)) (mV_ HL119_0.out) hg hat)
   have n4_ := aM (Kd.V_afterv (ok := (fun k_ => ((P0_ k_ ∨ P1_ k_) ∨ w.heap.size ≤ k_) ∧ some k_ ≠ (.slice Ao31 y132.length co31 : Value).ownBlock)) (mV_ HO128.out) hg hat)
   have n5_ := aM (Kd.V_afterv (ok := (fun k_ => ((P0_ k_ ∨ P1_ k_) ∨ w.heap.size ≤ k_) ∧ some k_ ≠ (.slice Ao31 y132.length co31 : Value).ownBlock)) (mV_ HO142.out) hg hat)
   have n6_ := aM (Kd.N_afterv (ok := (fun k_ => ((P0_ k_ ∨ P1_ k_) ∨ w.heap.size ≤ k_))) (mN_ HO134.out) hg hat)
   have n7_ := aM (hb)
   have n8_ := aM (ho)
   clear HO_0
   clear HO_1
   clear HL117_0
   clear HL119_0
   clear HO128
   clear HO142
   clear HO134
   clear HB
   clear HO137
   have HO_0 := n0_
   have HO_1 := n1_
   have HL117_0 := n2_
   have HL119_0 := n3_
   have HO128 := n4_
   have HO142 := n5_
   have HO134 := n6_
   have HB := n7_
   have HO145 := n8_
   clear n0_ n1_ n2_ n3_ n4_ n5_ n6_ n7_ n8_
   clear ho hb hg hat
   refine hK.out _ _ trivial (fun hHeld => ?_)
   clear hK K
   refine norm_ (a' := ?_) ?_ ?_
   rotate_left
   ·show Act.put _ (some 46) _ = _
    simp only [Act.put, xA, xB, xC, i64_w, i32_w]
    rfl
   refine zp 12 (some 4) ?_ zA20 rfl rfl (Or.inl ⟨by rfl, ?_⟩) ?_ ?_ ?_
   rotate_left
   ·intro w'
    go_simp
    with_reducible rfl
   rotate_left
   ·simp only [Act.put, xA, xB, xC, i64_w, i32_w]
    rfl
   refine done_ (done_of HT_.out (by kernel_rfl)) ?_
   try go_wp2
   go_ret
   exact ⟨_, zw, Kd.N_V (mN_ HO145.out), zb⟩
def spec_l09Move.l0 : Nat → List (S43) → List (S43) → Int → Int → Int → Int → Option ((List (S43)))
 | 0, _, _, _, _, _, _ => none
 | k + 1, x0, x5, x6, x172000, x172001, x172002 => if x6 < (x0.length : Int) then (if 0 ≤ x6 then ((spec_l09Add.f ((rd_T43 x0 x6).f0) ((rd_T43 x0 x6).f1) ((rd_T43 x0 x6).f2) x172000 x172001 x172002).bind fun bt176 => (if x5.length < 5864062014805 then (spec_l09Move.l0 k x0 (x5 ++ [(⟨bt176.1, bt176.2.1, bt176.2.2⟩ : S43)]) (wrap64 (x6 + 1)) x172000 x172001 x172002) else (none))) else (none)) else (some x5)
def spec_l09Move.f (k : Nat) (l0 : List (S43)) (a1_0 : Int) (a1_1 : Int) (a1_2 : Int) : Option ((List (S43))) := spec_l09Move.l0 k l0 (([] : List (S43))) 0 a1_0 a1_1 a1_2
def spec_l09Move.T5 : Bool × List (List Nat × List Nat) := (true, [([], []), ([], []), ([], []), ([1, 2], [1, 2]), ([3], [3]), ([], []), ([4, 5], [4, 5]), ([6], [6]), ([0, 7, 6], [0, 7]), ([8, 8, 0, 1, 2, 3, 4, 5, 6, 7, 8], [0, 8])])
def spec_l09Move.B5 : List Nat := [0, 0, 0, 6, 14, 0, 62, 126, 255, 511]
theorem spec_l09Move.tab5 : rtab .any (opsOf Try.f49 5) = spec_l09Move.T5 := by kernel_rfl
theorem spec_l09Move.bits5 : waitsOk spec_l09Move.T5.2 spec_l09Move.B5 = true := by kernel_rfl
theorem spec_l09Move.calls (k : Nat) (A0 : Option Addr) (c0 : Nat) (l0 : List (S43)) (a1_0 : Int) (a1_1 : Int) (a1_2 : Int) (r : List (S43)) (w : World) (hr0 : Kd.C k43 w A0 l0.length l0) (hc0 : l0.length ≤ c0) (h : spec_l09Move.f k l0 a1_0 a1_1 a1_2 = some r) :
  Calls Try.prog 49 #[.slice A0 l0.length c0, .agg #[.int .i64 a1_0, .int .i64 a1_1, .int .i64 a1_2]] w fun e w' => ∃ v0_ : Value, e = .returned (v0_) ∧ Kd.R k43 43 w' w.heap.size (fun _ => True) v0_ r ∧ Below w.heap.size w w' := by
 have hu43 := Try.underlying43
 have HR0 := aM hr0
 have HC0 := aM hc0
 clear hr0 hc0
 have HB := aM (Below.refl w.heap.size w)
 have H : (spec_l09Move.l0 k l0 (([] : List (S43))) 0 a1_0 a1_1 a1_2) = some r := h
 clear h
 obtain ⟨y172, hy172⟩ : ∃ y_ : List (S43), y_ = (([] : List (S43))) := ⟨_, rfl⟩
 replace H : (spec_l09Move.l0 k l0 y172 0 a1_0 a1_1 a1_2) = some r := zy H hy172
 have Ny172 := aM hy172
 clear hy172
 have H' := aM H
 clear H
 go_enter Try.func49, Try.ntmps49
 go_wp2_with (first | ((with_reducible refine gate_dst (N := 3) rfl ?_); refine zx 3 #[.int .i64 a1_0, .int .i64 a1_1, .int .i64 a1_2] 43 ?_; intro gb171 hg w3 hbox hb; have n0_ := aM (below_step zb hb); have n1_ := aM (hbox); have n2_ := aM ((ze : w.heap.size ≤ gb171)); have n3_ := aM ((ze : w.heap.size ≤ gb171)); clear HB; have HB := n0_; have BK171 := n1_; have GW171 := n2_; have GE171 := n3_; clear n0_ n1_ n2_ n3_; clear hb hbox hg) | ((with_reducible refine gate_dst (N := 7) rfl ?_); refine Kd.R_lit k43 _ 43 ?hg (N := 7) ?hd (xs := ([] : List (S43))) (inner := []) (ok := fun _ => True) (okp := fun _ => True) ?hr ?hp (fun _ hk => hk) trivial (Below.refl _ _) (Nat.le_refl _) (by simp) ?_; (case hd => rfl); (case hg => rfl); (case hr => first | (go_simp; done) | (go_simp; rfl)); (case hp => exact (Reps.none _ _)); intro v173 w4 ho5 hb hg_ hnew_; clear hg_ hnew_; (first | rw [← Ny172.out] at ho5 | (simp only [Int.reduceToNat] at ho5; rw [← Ny172.out] at ho5)); have n0_ := aM (Kd.R_lower (Kd.R_newB ho5 (g := gb171) (o := .cells #[.int .i64 a1_0, .int .i64 a1_1, .int .i64 a1_2] 43 (0, 0)) (mB_ BK171.out)) (below_size (zs GE171.out))); have n1_ := aM (blk_below (g := gb171) (o := .cells #[.int .i64 a1_0, .int .i64 a1_1, .int .i64 a1_2] 43 (0, 0)) (mB_ BK171.out) hb); have n2_ := aM (below_step (zs GE171.out) hb); clear BK171 HB; have HO174 := n0_; have BK171 := n1_; have HB := n2_; clear n0_ n1_ n2_; clear hb ho5))
 go_loopg [5, 6] k (fun kq v5 v6 w' => ∃ (x5_1 : List (S43)) (x6_1 : Int), v6 = .int .i64 x6_1 ∧ Aside0 (spec_l09Move.l0 kq l0 x5_1 x6_1 a1_0 a1_1 a1_2 = some r) ∧ Aside0 (kq ≤ k) ∧ Aside0 (Kd.R k43 43 w' w.heap.size (fun k_ => k_ ≠ gb171) v5 x5_1) ∧ Aside0 (w'.heap[gb171]? = some (.cells #[.int .i64 a1_0, .int .i64 a1_1, .int .i64 a1_2] 43 (0, 0))) ∧ Aside0 (Below w.heap.size w w'))
 case atStart => exact ⟨(y172), (0), zr, H', ⟨Nat.le_refl _⟩, ⟨zd5 HO174.out⟩, ⟨mB_ BK171.out⟩, ⟨zs GE171.out⟩⟩
 case round =>
  clear H'
  try clear p2
  try clear c4
  obtain ⟨x5_1, x6_1, rfl, HA, HK1, HO_5, BK171, HB⟩ := hrel
  cases gk with
  | zero => exact absurd HA.out (by simp [spec_l09Move.l0])
  | succ k1 =>
   have H := HA.out
   clear HA
   simp only [spec_l09Move.l0] at H
   by_cases c6 : x6_1 < (l0.length : Int)
   rotate_left
   ·rw [if_neg c6] at H
    have c6b0 : decide (x6_1 < (l0.length : Int)) = false := decide_eq_false c6
    clear c6
    obtain rfl := Option.some.inj H
    go_wp2
    go_ret
    exact ⟨_, zw, zd6 HO_5.out, zs GE171.out⟩
   rw [if_pos c6] at H
   have c6b0 : decide (x6_1 < (l0.length : Int)) = true := decide_eq_true c6
   clear c6
   by_cases c7 : 0 ≤ x6_1
   rotate_left
   ·rw [if_neg c7] at H
    exact absurd H (by simp)
   rw [if_pos c7] at H
   have c7b0 : decide (0 ≤ x6_1) = true := decide_eq_true c7
   clear c7
   replace H := Option.bind_eq_some_iff.mp H
   obtain ⟨⟨t176, t177, t178⟩, A80, H⟩ := H
   replace H : (if x5_1.length < 5864062014805 then (spec_l09Move.l0 k1 l0 (x5_1 ++ [(⟨t176, t177, t178⟩ : S43)]) (wrap64 (x6_1 + 1)) a1_0 a1_1 a1_2) else (none)) = some r := H
   have A8 := aM A80
   clear A80
   by_cases c9 : x5_1.length < 5864062014805
   rotate_left
   ·rw [if_neg c9] at H
    exact absurd H (by simp)
   rw [if_pos c9] at H
   have LMc9 := aM c9
   clear c9
   obtain ⟨y179, hy179⟩ : ∃ y_ : List (S43), y_ = (x5_1 ++ [(⟨t176, t177, t178⟩ : S43)]) := ⟨_, rfl⟩
   replace H : (spec_l09Move.l0 k1 l0 y179 (wrap64 (x6_1 + 1)) a1_0 a1_1 a1_2) = some r := zy H hy179
   have Ny179 := aM hy179
   clear hy179
   have H' := aM H
   clear H
   try go_wp2
   have n0_ := aM (Kd.R_drew HO_5.out)
   have n1_ := aM (blk_drew BK171.out)
   have n2_ := aM (below_drew1 HB.out)
   clear HO_5
   clear BK171
   clear HB
   have HO_5 := n0_
   have BK171 := n1_
   have HB := n2_
   clear n0_ n1_ n2_
   have p175 : 0 ≤ (x6_1 : Int) := of_decide_eq_true za
   have q175 : x6_1 < (l0.length : Int) := of_decide_eq_true za
   obtain ⟨ad175, e175, hx175_0, hx175_1, hx175_2⟩ := at_T43 HR0.out x6_1 p175 q175
   have hw175_2 := hx175_2
   have hw175_1 := hx175_1
   have hw175_0 := hx175_0
   cases e175
   replace hx175_0 := zk HB.out hx175_0
   replace hx175_1 := zk HB.out hx175_1
   replace hx175_2 := zk HB.out hx175_2
   replace p175 := eq_true p175
   replace q175 := eq_true q175
   refine start_ (n := 10) (S := fun w' => w'.cell? ⟨gb171, 0, none⟩ = some (.int .i64 a1_0) ∧ w'.cell? ⟨gb171, 1, none⟩ = some (.int .i64 a1_1) ∧ w'.cell? ⟨gb171, 2, none⟩ = some (.int .i64 a1_2) ∧ w'.cell? (ad175.add ((x6_1).toNat * 3)) = some (.int .i64 ((rd_T43 l0 x6_1).f0)) ∧ w'.cell? ⟨(ad175.add ((x6_1).toNat * 3)).block, (ad175.add ((x6_1).toNat * 3)).off + 1, none⟩ = some (.int .i64 ((rd_T43 l0 x6_1).f1)) ∧ w'.cell? ⟨(ad175.add ((x6_1).toNat * 3)).block, (ad175.add ((x6_1).toNat * 3)).off + 2, none⟩ = some (.int .i64 ((rd_T43 l0 x6_1).f2))) (ds := []) zA21 (by kernel_rfl) rfl rfl ⟨(blk_cell BK171.out 0).trans rfl, (blk_cell BK171.out 1).trans rfl, (blk_cell BK171.out 2).trans rfl, (zk HB.out hw175_0), (zk HB.out hw175_1), (zk HB.out hw175_2)⟩ (fun hHeld => ?_); refine with_tabW spec_l09Move.tab5 spec_l09Move.bits5 (fun HT_ HW_ => ?_)
   generalize wr.drew = w10 at HO_5 BK171 HB hx175_0 hx175_1 hx175_2 hHeld ⊢
   refine zp 0 (some 14) ?_ zA22 rfl rfl (Or.inl ⟨by rfl, ?_⟩) ?_ ?_ ?_
   rotate_left
   ·intro w'
    go_simp
    with_reducible rfl
   rotate_left
   ·simp only [Act.put, xA, xB, xC, i64_w, i32_w]
    rfl
   refine zp 1 (some 15) ?_ zA23 rfl rfl (Or.inl ⟨by rfl, ?_⟩) ?_ ?_ ?_
   rotate_left
   ·intro w'
    go_simp
    with_reducible rfl
   rotate_left
   ·simp only [Act.put, xA, xB, xC, i64_w, i32_w]
    rfl
   refine zp 2 (some 16) ?_ zA24 rfl rfl (Or.inl ⟨by rfl, ?_⟩) ?_ ?_ ?_
   rotate_left
   ·intro w'
    go_simp
    with_reducible rfl
   rotate_left
   ·simp only [Act.put, xA, xB, xC, i64_w, i32_w]
    rfl
   refine zp 3 (some 17) ?_ zA25 rfl rfl (Or.inl ⟨by rfl, ?_⟩) ?_ ?_ ?_
   rotate_left
   ·intro w'
    go_simp
    with_reducible rfl
   rotate_left
   ·simp only [Act.put, xA, xB, xC, i64_w, i32_w]
    rfl
   refine zu 4 (some 18) ?_ zA26 rfl rfl (Or.inl ⟨by rfl, ?_⟩) hHeld ?_ ?_ ?_
   rotate_left
   ·rintro w' ⟨s0, s1, s2, s3, s4, s5⟩
    go_simp
    with_reducible rfl
   rotate_left
   ·simp only [Act.put, xA, xB, xC, i64_w, i32_w]
    rfl
   refine zu 5 (some 19) ?_ zA27 rfl rfl (Or.inl ⟨by rfl, ?_⟩) hHeld ?_ ?_ ?_
   rotate_left
   ·rintro w' ⟨s0, s1, s2, s3, s4, s5⟩
    go_simp
    with_reducible rfl
   rotate_left
   ·simp only [Act.put, xA, xB, xC, i64_w, i32_w]
    rfl
   refine one_ (i := 6) (N := some 20) zA28 rfl rfl (one_of HT_.out (by kernel_rfl)) (by decide) (fun K hK => ?_)
   refine goes_ Try.func25 (by kernel_rfl) rfl #[.agg #[.int .i64 ((rd_T43 l0 x6_1).f0), .int .i64 ((rd_T43 l0 x6_1).f1), .int .i64 ((rd_T43 l0 x6_1).f2)], .agg #[.int .i64 a1_0, .int .i64 a1_1, .int .i64 a1_2]] (by rfl) rfl rfl zm ?_
   with_reducible refine (spec_l09Add.calls ((rd_T43 l0 x6_1).f0) ((rd_T43 l0 x6_1).f1) ((rd_T43 l0 x6_1).f2) a1_0 a1_1 a1_2 t176 t177 t178 _ A8.out).mono ?_
   rintro e w11 ⟨rfl, hb⟩
   refine ⟨_, rfl, ?_⟩
   have n0_ := aM (Kd.R_below (mR_ HO_5.out) hb)
   have n1_ := aM (blk_below (g := gb171) (o := .cells #[.int .i64 a1_0, .int .i64 a1_1, .int .i64 a1_2] 43 (0, 0)) (mB_ BK171.out) hb)
   have n2_ := aM (below_step (zs GE171.out) hb)
   clear HO_5
   clear BK171
   clear HB
   have HO_5 := n0_
   have BK171 := n1_
   have HB := n2_
   clear n0_ n1_ n2_
   (try clear hb)
   (try clear hb2)
   (try clear hk)
   (try clear hi)
   refine hK.out _ _ ⟨(blk_cell BK171.out 0).trans rfl, (blk_cell BK171.out 1).trans rfl, (blk_cell BK171.out 2).trans rfl, (zk HB.out hw175_0), (zk HB.out hw175_1), (zk HB.out hw175_2)⟩ (fun hHeld => ?_)
   clear hK K
   refine norm_ (a' := ?_) ?_ ?_
   rotate_left
   ·show Act.put _ (some 20) _ = _
    simp only [Act.put, xA, xB, xC, i64_w, i32_w]
    rfl
   refine one_ (i := 7) (N := some 21) zA29 rfl rfl (one_of HT_.out (by kernel_rfl)) (by decide) (fun K hK => ?_)
   refine value_ (w1 := ?_) (v := ?_) (by rfl) rfl ?_ ?_
   rotate_left 2
   ·go_simp
    constructor
    ·rfl
    ·rfl
   refine hK.out _ _ ⟨(blk_cell (blk_alloc BK171.out _) 0).trans rfl, (blk_cell (blk_alloc BK171.out _) 1).trans rfl, (blk_cell (blk_alloc BK171.out _) 2).trans rfl, (World.cell?_alloc_lt _ _ _ (World.block_lt_of_cell? _ _ ((zk HB.out hw175_0)))).trans ((zk HB.out hw175_0)), (World.cell?_alloc_lt _ _ _ (World.block_lt_of_cell? _ _ ((zk HB.out hw175_1)))).trans ((zk HB.out hw175_1)), (World.cell?_alloc_lt _ _ _ (World.block_lt_of_cell? _ _ ((zk HB.out hw175_2)))).trans ((zk HB.out hw175_2))⟩ (fun hHeld => ?_)
   clear hK K
   refine norm_ (a' := ?_) ?_ ?_
   rotate_left
   ·show Act.put _ (some 21) _ = _
    simp only [Act.put, xA, xB, xC, i64_w, i32_w]
    rfl
   refine one_ (i := 8) (N := some 22) zA30 rfl rfl (one_of HT_.out (by kernel_rfl)) (by decide) (fun K hK => ?_)
   refine Kd.R_append_step k43 (w0 := w) w.heap.size (by rfl) (.tmp 14) (.tmp 21) 40 43 (.agg #[(.int .i64 0), (.int .i64 0), (.int .i64 0)]) 24 rfl Try.underlying40 info43 rfl (by decide) (by omega) u5 x5_1 (⟨t176, t177, t178⟩ : S43) [.int .i64 t176, .int .i64 t177, .int .i64 t178] (fun k_ => k_ ≠ gb171) (fun _ => False) rfl rfl ?aP (fun _ hk => hk.elim) ?aF ?aO ?aB ?aS ?aL ?_
   (case aP => exact k43_mkM _ _ _ (⟨t176, t177, t178⟩ : S43))
   (case aB => exact (zs GE171.out))
   (case aF => exact (fun k_ hk => Kd.freshB (g := gb171) (o := .cells #[.int .i64 a1_0, .int .i64 a1_1, .int .i64 a1_2] 43 (0, 0)) (mB_ BK171.out) k_ hk))
   (case aO => exact (mR_ HO_5.out))
   (case aS => exact (below_size (zs GE171.out)))
   (case aL => have := LMc9.out; omega)
   intro v180 w12 ho hb hg hat
   rw [← Ny179.out] at ho
   have n0_ := aM (blk_grown (g := gb171) (o := .cells #[.int .i64 a1_0, .int .i64 a1_1, .int .i64 a1_2] 43 (0, 0)) (mB_ BK171.out) hg (Kd.R_away HO_5.out (fun _ hk => hk)))
   have n1_ := aM (hb)
   have n2_ := aM (ho)
   clear BK171
   clear HB
   clear HO_5
   have BK171 := n0_
   have HB := n1_
   have HO181 := n2_
   clear n0_ n1_ n2_
   clear ho hb hg hat
   refine hK.out _ _ ⟨(blk_cell BK171.out 0).trans rfl, (blk_cell BK171.out 1).trans rfl, (blk_cell BK171.out 2).trans rfl, (zk HB.out hw175_0), (zk HB.out hw175_1), (zk HB.out hw175_2)⟩ (fun hHeld => ?_)
   clear hK K
   refine norm_ (a' := ?_) ?_ ?_
   rotate_left
   ·show Act.put _ (some 22) _ = _
    simp only [Act.put, xA, xB, xC, i64_w, i32_w]
    rfl
   refine zp 9 (some 5) ?_ zA31 rfl rfl (Or.inl ⟨by rfl, ?_⟩) ?_ ?_ ?_
   rotate_left
   ·intro w'
    go_simp
    with_reducible rfl
   rotate_left
   ·simp only [Act.put, xA, xB, xC, i64_w, i32_w]
    rfl
   refine done_ (done_of HT_.out (by kernel_rfl)) ?_
   try go_wp2
   go_roundg k1
   case measure => have := HK1.out; omega
   case rel => exact ⟨(y179), (wrap64 (x6_1 + 1)), zr, H', ⟨by have := HK1.out; omega⟩, ⟨mR_ HO181.out⟩, ⟨mB_ BK171.out⟩, ⟨zs GE171.out⟩⟩
def spec_l09Normal.l0 : Nat → List (S43) → Int → Int → Int → Int → Option ((List (S43)))
 | 0, _, _, _, _, _ => none
 | k + 1, x0, x3, x4, x5, x6 => if x6 < (x0.length : Int) then (if 0 ≤ x6 then (spec_l09Normal.l0 k x0 (mn x3 ((rd_T43 x0 x6).f0)) (mn x4 ((rd_T43 x0 x6).f1)) (mn x5 ((rd_T43 x0 x6).f2)) (wrap64 (x6 + 1))) else (none)) else ((spec_l09Move.f k x0 (wrap64 (-x3)) (wrap64 (-x4)) (wrap64 (-x5))).bind fun t188 => (some t188))
def spec_l09Normal.f (k : Nat) (l0 : List (S43)) : Option ((List (S43))) := if 0 < (l0.length : Int) then (spec_l09Normal.l0 k l0 ((rd_T43 l0 0).f0) ((rd_T43 l0 0).f1) ((rd_T43 l0 0).f2) 1) else (none)
theorem spec_l09Normal.calls (k : Nat) (A0 : Option Addr) (c0 : Nat) (l0 : List (S43)) (r : List (S43)) (w : World) (hr0 : Kd.C k43 w A0 l0.length l0) (hc0 : l0.length ≤ c0) (h : spec_l09Normal.f k l0 = some r) :
  Calls Try.prog 29 #[.slice A0 l0.length c0] w fun e w' => ∃ v0_ : Value, e = .returned (v0_) ∧ Kd.R k43 43 w' w.heap.size (fun _ => True) v0_ r ∧ Below w.heap.size w w' := by
 have hu43 := Try.underlying43
 have HR0 := aM hr0
 have HC0 := aM hc0
 clear hr0 hc0
 have HB := aM (Below.refl w.heap.size w)
 have H : (if 0 < (l0.length : Int) then (spec_l09Normal.l0 k l0 ((rd_T43 l0 0).f0) ((rd_T43 l0 0).f1) ((rd_T43 l0 0).f2) 1) else (none)) = some r := h
 clear h
 by_cases c2 : 0 < (l0.length : Int)
 rotate_left
 ·rw [if_neg c2] at H
  exact absurd H (by simp)
 rw [if_pos c2] at H
 have c2b0 : decide (0 < (l0.length : Int)) = true := decide_eq_true c2
 have c2b1 : decide (0 < l0.length) = true := decide_eq_true (by omega)
 clear c2
 have H' := aM H
 clear H
 have p182 : 0 ≤ (0 : Int) := (by omega)
 have q182 : 0 < (l0.length : Int) := of_decide_eq_true za
 obtain ⟨ad182, e182, hx182_0, hx182_1, hx182_2⟩ := at_T43 HR0.out 0 p182 q182
 cases e182
 have qi182 : (0 < l0.length) = True := eq_true (by omega)
 (try rw [show ((0 : Int)).toNat = 0 from rfl] at hx182_0)
 (try rw [show 0 * 3 = 0 from rfl] at hx182_0)
 (try rw [Addr.add_zero'] at hx182_0)
 (try rw [show ((0 : Int)).toNat = 0 from rfl] at hx182_1)
 (try rw [show 0 * 3 = 0 from rfl] at hx182_1)
 (try rw [Addr.add_zero'] at hx182_1)
 (try rw [show ((0 : Int)).toNat = 0 from rfl] at hx182_2)
 (try rw [show 0 * 3 = 0 from rfl] at hx182_2)
 (try rw [Addr.add_zero'] at hx182_2)
 replace p182 := eq_true p182
 replace q182 := eq_true q182
 have p183 : 0 ≤ (0 : Int) := (by omega)
 have q183 : 0 < (l0.length : Int) := of_decide_eq_true za
 obtain ⟨ad183, e183, hx183_0, hx183_1, hx183_2⟩ := at_T43 HR0.out 0 p183 q183
 obtain rfl : ad182 = ad183 := (by injection e183)
 have qi183 : (0 < l0.length) = True := eq_true (by omega)
 (try rw [show ((0 : Int)).toNat = 0 from rfl] at hx183_0)
 (try rw [show 0 * 3 = 0 from rfl] at hx183_0)
 (try rw [Addr.add_zero'] at hx183_0)
 (try rw [show ((0 : Int)).toNat = 0 from rfl] at hx183_1)
 (try rw [show 0 * 3 = 0 from rfl] at hx183_1)
 (try rw [Addr.add_zero'] at hx183_1)
 (try rw [show ((0 : Int)).toNat = 0 from rfl] at hx183_2)
 (try rw [show 0 * 3 = 0 from rfl] at hx183_2)
 (try rw [Addr.add_zero'] at hx183_2)
 replace p183 := eq_true p183
 replace q183 := eq_true q183
 have p184 : 0 ≤ (0 : Int) := (by omega)
 have q184 : 0 < (l0.length : Int) := of_decide_eq_true za
 obtain ⟨ad184, e184, hx184_0, hx184_1, hx184_2⟩ := at_T43 HR0.out 0 p184 q184
 obtain rfl : ad182 = ad184 := (by injection e184)
 have qi184 : (0 < l0.length) = True := eq_true (by omega)
 (try rw [show ((0 : Int)).toNat = 0 from rfl] at hx184_0)
 (try rw [show 0 * 3 = 0 from rfl] at hx184_0)
 (try rw [Addr.add_zero'] at hx184_0)
 (try rw [show ((0 : Int)).toNat = 0 from rfl] at hx184_1)
 (try rw [show 0 * 3 = 0 from rfl] at hx184_1)
 (try rw [Addr.add_zero'] at hx184_1)
 (try rw [show ((0 : Int)).toNat = 0 from rfl] at hx184_2)
 (try rw [show 0 * 3 = 0 from rfl] at hx184_2)
 (try rw [Addr.add_zero'] at hx184_2)
 replace p184 := eq_true p184
 replace q184 := eq_true q184
 go_enter Try.func29, Try.ntmps29
 go_wp2
 repeat (go_quiet (fail); try go_wp2)
 go_loopg [3, 4, 5, 6] k (fun kq v3 v4 v5 v6 w' => ∃ (x3_1 : Int) (x4_1 : Int) (x5_1 : Int) (x6_1 : Int), v3 = .int .i64 x3_1 ∧ v4 = .int .i64 x4_1 ∧ v5 = .int .i64 x5_1 ∧ v6 = .int .i64 x6_1 ∧ Aside0 (spec_l09Normal.l0 kq l0 x3_1 x4_1 x5_1 x6_1 = some r) ∧ Aside0 (kq ≤ k) ∧ Aside0 (Below w.heap.size w w'))
 case atStart => exact ⟨((rd_T43 l0 0).f0), ((rd_T43 l0 0).f1), ((rd_T43 l0 0).f2), (1), zr, zr, zr, zr, H', ⟨Nat.le_refl _⟩, ⟨zb⟩⟩
 case round =>
  clear H'
  try clear p1
  try clear q1
  try clear hx1
  try clear qi1
  try clear c2
  try clear c2b0
  try clear c2b1
  try clear p2
  try clear hx182_0
  try clear hx182_1
  try clear hx182_2
  try clear hx183_0
  try clear hx183_1
  try clear hx183_2
  try clear hx184_0
  try clear hx184_1
  try clear hx184_2
  try clear p182
  try clear p183
  try clear p184
  try clear q182
  try clear q183
  try clear q184
  obtain ⟨x3_1, x4_1, x5_1, x6_1, rfl, rfl, rfl, rfl, HA, HK1, HB⟩ := hrel
  cases gk with
  | zero => exact absurd HA.out (by simp [spec_l09Normal.l0])
  | succ k1 =>
   have H := HA.out
   clear HA
   simp only [spec_l09Normal.l0] at H
   by_cases c3 : x6_1 < (l0.length : Int)
   rotate_left
   ·rw [if_neg c3] at H
    have c3b0 : decide (x6_1 < (l0.length : Int)) = false := decide_eq_false c3
    clear c3
    replace H := Option.bind_eq_some_iff.mp H
    obtain ⟨t188, A80, H⟩ := H
    replace H : (some t188) = some r := H
    have A8 := aM A80
    clear A80
    obtain rfl := Option.some.inj H
    go_wp2_with (first | (go_at_call 49; (with_reducible refine (spec_l09Move.calls k1 _ _ l0 (wrap64 (-x3_1)) (wrap64 (-x4_1)) (wrap64 (-x5_1)) t188 _ ?side1 ?side2 A8.out).mono ?_); (case side1 => repeat (first | exact (Kd.C_below HR0.out HB.out) | (with_reducible refine Kd.C_alloc ?_ _) | (with_reducible refine Kd.C_drewN ?_ _) | (with_reducible refine Kd.C_drew ?_))); (case side2 => exact HC0.out); rintro e w9 ⟨v189, rfl, ho0, hb⟩; have n0_ := aM (Kd.R_lower ho0 (below_size zb)); have n1_ := aM (below_step zb hb); clear HB; have HO190 := n0_; have HB := n1_; clear n0_ n1_; (try clear hb); (try clear hb2); (try clear hk); (try clear hi); (try clear ho0)))
    repeat (go_quiet (first | (go_at_call 49; (try simp only [i64_w]); (with_reducible refine (spec_l09Move.calls k1 _ _ l0 (wrap64 (-x3_1)) (wrap64 (-x4_1)) (wrap64 (-x5_1)) t188 _ ?side1 ?side2 A8.out).mono ?_); (case side1 => repeat (first | exact (Kd.C_below HR0.out HB.out) | (with_reducible refine Kd.C_alloc ?_ _) | (with_reducible refine Kd.C_drewN ?_ _) | (with_reducible refine Kd.C_drew ?_))); (case side2 => exact HC0.out); rintro e w9 ⟨v189, rfl, ho0, hb⟩; have n0_ := aM (Kd.R_lower ho0 (below_size zb)); have n1_ := aM (below_step zb hb); clear HB; have HO190 := n0_; have HB := n1_; clear n0_ n1_; (try clear hb); (try clear hb2); (try clear hk); (try clear hi); (try clear ho0))); try go_wp2_with (first | (go_at_call 49; (try simp only [i64_w]); (with_reducible refine (spec_l09Move.calls k1 _ _ l0 (wrap64 (-x3_1)) (wrap64 (-x4_1)) (wrap64 (-x5_1)) t188 _ ?side1 ?side2 A8.out).mono ?_); (case side1 => repeat (first | exact (Kd.C_below HR0.out HB.out) | (with_reducible refine Kd.C_alloc ?_ _) | (with_reducible refine Kd.C_drewN ?_ _) | (with_reducible refine Kd.C_drew ?_))); (case side2 => exact HC0.out); rintro e w9 ⟨v189, rfl, ho0, hb⟩; have n0_ := aM (Kd.R_lower ho0 (below_size zb)); have n1_ := aM (below_step zb hb); clear HB; have HO190 := n0_; have HB := n1_; clear n0_ n1_; (try clear hb); (try clear hb2); (try clear hk); (try clear hi); (try clear ho0))))
    go_ret
    exact ⟨_, zw, mR_ HO190.out, zb⟩
   rw [if_pos c3] at H
   have c3b0 : decide (x6_1 < (l0.length : Int)) = true := decide_eq_true c3
   clear c3
   by_cases c4 : 0 ≤ x6_1
   rotate_left
   ·rw [if_neg c4] at H
    exact absurd H (by simp)
   rw [if_pos c4] at H
   have c4b0 : decide (0 ≤ x6_1) = true := decide_eq_true c4
   clear c4
   obtain ⟨ji5, hji5⟩ : ∃ j_ : Int, (mn x3_1 ((rd_T43 l0 x6_1).f0)) = j_ := ⟨_, rfl⟩
   replace H : (spec_l09Normal.l0 k1 l0 ji5 (mn x4_1 ((rd_T43 l0 x6_1).f1)) (mn x5_1 ((rd_T43 l0 x6_1).f2)) (wrap64 (x6_1 + 1))) = some r := by first | (rw [hji5] at H; exact H) | (simp only [hji5] at H ⊢; exact H)
   have hji5_ : (if ((rd_T43 l0 x6_1).f0) < x3_1 then ((rd_T43 l0 x6_1).f0) else x3_1) = ji5 := hji5
   obtain ⟨ji6, hji6⟩ : ∃ j_ : Int, (mn x4_1 ((rd_T43 l0 x6_1).f1)) = j_ := ⟨_, rfl⟩
   replace H : (spec_l09Normal.l0 k1 l0 ji5 ji6 (mn x5_1 ((rd_T43 l0 x6_1).f2)) (wrap64 (x6_1 + 1))) = some r := by first | (rw [hji6] at H; exact H) | (simp only [hji6] at H ⊢; exact H)
   have hji6_ : (if ((rd_T43 l0 x6_1).f1) < x4_1 then ((rd_T43 l0 x6_1).f1) else x4_1) = ji6 := hji6
   obtain ⟨ji7, hji7⟩ : ∃ j_ : Int, (mn x5_1 ((rd_T43 l0 x6_1).f2)) = j_ := ⟨_, rfl⟩
   replace H : (spec_l09Normal.l0 k1 l0 ji5 ji6 ji7 (wrap64 (x6_1 + 1))) = some r := by first | (rw [hji7] at H; exact H) | (simp only [hji7] at H ⊢; exact H)
   have hji7_ : (if ((rd_T43 l0 x6_1).f2) < x5_1 then ((rd_T43 l0 x6_1).f2) else x5_1) = ji7 := hji7
   have H' := aM H
   clear H
   have p185 : 0 ≤ (x6_1 : Int) := of_decide_eq_true za
   have q185 : x6_1 < (l0.length : Int) := of_decide_eq_true za
   obtain ⟨ad185, e185, hx185_0, hx185_1, hx185_2⟩ := at_T43 HR0.out x6_1 p185 q185
   obtain rfl : ad182 = ad185 := (by injection e185)
   replace hx185_0 := zk HB.out hx185_0
   replace hx185_1 := zk HB.out hx185_1
   replace hx185_2 := zk HB.out hx185_2
   replace p185 := eq_true p185
   replace q185 := eq_true q185
   have p186 : 0 ≤ (x6_1 : Int) := of_decide_eq_true za
   have q186 : x6_1 < (l0.length : Int) := of_decide_eq_true za
   obtain ⟨ad186, e186, hx186_0, hx186_1, hx186_2⟩ := at_T43 HR0.out x6_1 p186 q186
   obtain rfl : ad182 = ad186 := (by injection e186)
   replace hx186_0 := zk HB.out hx186_0
   replace hx186_1 := zk HB.out hx186_1
   replace hx186_2 := zk HB.out hx186_2
   replace p186 := eq_true p186
   replace q186 := eq_true q186
   have p187 : 0 ≤ (x6_1 : Int) := of_decide_eq_true za
   have q187 : x6_1 < (l0.length : Int) := of_decide_eq_true za
   obtain ⟨ad187, e187, hx187_0, hx187_1, hx187_2⟩ := at_T43 HR0.out x6_1 p187 q187
   obtain rfl : ad182 = ad187 := (by injection e187)
   replace hx187_0 := zk HB.out hx187_0
   replace hx187_1 := zk HB.out hx187_1
   replace hx187_2 := zk HB.out hx187_2
   replace p187 := eq_true p187
   replace q187 := eq_true q187
   go_wp2
   repeat (go_quiet (fail); try go_wp2)
   go_roundg k1
   case measure => have := HK1.out; omega
   case rel => exact ⟨(ji5), (ji6), (ji7), (wrap64 (x6_1 + 1)), (by first | rfl | (simp; done) | (simp only [← hji5] <;> (first | rfl | simp)) | (simp [*]; done)), (by first | rfl | (simp; done) | (simp only [← hji6] <;> (first | rfl | simp)) | (simp [*]; done)), (by first | rfl | (simp; done) | (simp only [← hji7] <;> (first | rfl | simp)) | (simp [*]; done)), zr, H', ⟨by have := HK1.out; omega⟩, ⟨zb⟩⟩
end Go.Proofs.Ytlompfboheiliaa.F
end
section
namespace Go.Proofs.Ytlompfboheiliaa.F
open Go.RowKit Go.Proofs.YtlompfboheiliaaW.PrintWords Go.Proofs.YtlompfboheiliaaW.PrintLast Go.Proofs.YtlompfboheiliaaW.PrintMore
attribute [local go_sem] max2_int min2_int max_two min_two max_three min_three max_four min_four
set_option linter.unusedVariables false
set_option linter.unusedSimpArgs false
mutual
def spec_l09Sort.l0 : Nat → List (S43) → List (S43) → Int → Option ((List (S43)))
 | 0, _, _, _ => none
 | k + 1, x0, x3, x4 => if x4 < (x0.length : Int) then (spec_l09Sort.l1 k x0 x3 x4 0) else (some x3)
def spec_l09Sort.l1 : Nat → List (S43) → List (S43) → Int → Int → Option ((List (S43)))
 | 0, _, _, _, _ => none
 | k + 1, x0, x3, x4, x5 => if x5 < (x3.length : Int) then (if 0 ≤ x5 then (if 0 ≤ x4 then (if x4 < (x0.length : Int) then ((spec_l09Less.f ((rd_T43 x3 x5).f0) ((rd_T43 x3 x5).f1) ((rd_T43 x3 x5).f2) ((rd_T43 x0 x4).f0) ((rd_T43 x0 x4).f1) ((rd_T43 x0 x4).f2)).bind fun t196 => (if t196 = true then (spec_l09Sort.l1 k x0 x3 x4 (wrap64 (x5 + 1))) else ((some (([] : List (S43)) : List (S43))).bind fun y197 => (if x5 ≤ (x3.length : Int) then ((some (x3.take (x5 : Int).toNat : List (S43))).bind fun y200 => (if y197.length + y200.length < 5864062014805 then ((some (y197 ++ y200 : List (S43))).bind fun y204 => ((some (([(⟨(rd_T43 x0 x4).f0, (rd_T43 x0 x4).f1, (rd_T43 x0 x4).f2⟩ : S43)] : List (S43)) : List (S43))).bind fun y208 => (if y204.length + y208.length < 5864062014805 then ((some (y204 ++ y208 : List (S43))).bind fun y211 => ((some (x3.drop (x5 : Int).toNat : List (S43))).bind fun y214 => (if y211.length + y214.length < 5864062014805 then (spec_l09Sort.l0 k x0 (y211 ++ y214) (wrap64 (x4 + 1))) else (none)))) else (none)))) else (none))) else (none))))) else (none)) else (none)) else (none)) else ((some (([] : List (S43)) : List (S43))).bind fun y221 => (if 0 ≤ x5 then (if x5 ≤ (x3.length : Int) then ((some (x3.take (x5 : Int).toNat : List (S43))).bind fun y224 => (if y221.length + y224.length < 5864062014805 then ((some (y221 ++ y224 : List (S43))).bind fun y228 => (if 0 ≤ x4 then (if x4 < (x0.length : Int) then ((some (([(⟨(rd_T43 x0 x4).f0, (rd_T43 x0 x4).f1, (rd_T43 x0 x4).f2⟩ : S43)] : List (S43)) : List (S43))).bind fun y232 => (if y228.length + y232.length < 5864062014805 then ((some (y228 ++ y232 : List (S43))).bind fun y235 => ((some (x3.drop (x5 : Int).toNat : List (S43))).bind fun y238 => (if y235.length + y238.length < 5864062014805 then (spec_l09Sort.l0 k x0 (y235 ++ y238) (wrap64 (x4 + 1))) else (none)))) else (none))) else (none)) else (none))) else (none))) else (none)) else (none)))
end
def spec_l09Sort.f (k : Nat) (l0 : List (S43)) : Option ((List (S43))) := spec_l09Sort.l0 k l0 (([] : List (S43))) 0
def spec_l09Sort.T6 : Bool × List (List Nat × List Nat) := (true, [([], []), ([], []), ([1], [1]), ([0, 2], [0, 2]), ([3], [3]), ([4], [4]), ([4], [4]), ([5, 6, 4], [4, 5, 6]), ([7, 4], [4, 7]), ([4], [4]), ([4], [4]), ([9, 10, 4], [4, 9, 10]), ([11, 4], [4, 11]), ([8, 12, 4, 4], [4, 8, 12]), ([4, 13], [4, 13])])
def spec_l09Sort.B6 : List Nat := [0, 0, 2, 7, 15, 31, 31, 127, 255, 31, 31, 1567, 3615, 8191, 16383]
theorem spec_l09Sort.tab6 : rtab .any (opsOf Try.f30 6) = spec_l09Sort.T6 := by kernel_rfl
theorem spec_l09Sort.bits6 : waitsOk spec_l09Sort.T6.2 spec_l09Sort.B6 = true := by kernel_rfl
def spec_l09Sort.T8 : Bool × List (List Nat × List Nat) := (true, [([], []), ([], []), ([], []), ([1, 2], [1, 2]), ([0, 3], [0, 3]), ([], []), ([], []), ([5, 6], [5, 6]), ([7], [7]), ([8], [8]), ([4, 9, 4], [4, 9]), ([], []), ([], []), ([11, 12], [11, 12]), ([10, 13, 10], [10, 13]), ([14, 14, 0, 1, 2, 3, 4, 5, 6, 7, 8, 9, 10, 11, 12, 13, 14], [1, 11, 14])])
def spec_l09Sort.B8 : List Nat := [0, 0, 0, 6, 15, 0, 0, 96, 224, 480, 1023, 0, 0, 6144, 16383, 32767]
theorem spec_l09Sort.tab8 : rtab .any (opsOf Try.f30 8) = spec_l09Sort.T8 := by kernel_rfl
theorem spec_l09Sort.bits8 : waitsOk spec_l09Sort.T8.2 spec_l09Sort.B8 = true := by kernel_rfl
end Go.Proofs.Ytlompfboheiliaa.F
end
