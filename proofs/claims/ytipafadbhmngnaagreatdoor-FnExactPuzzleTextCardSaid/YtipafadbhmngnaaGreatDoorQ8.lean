/- The row of FnExactPuzzleText, with what it needs: text 9 of 11. -/
import Derived.Test.YtipafadbhmngnaaGreatDoorQ7
import Derived.ChangeArms
import Derived.ChangeSame
import Derived.Deep.Fields
import Derived.Deep.Slices
import Derived.Deep.Strs
import Derived.WideShapes
set_option maxHeartbeats 8000000
set_option maxRecDepth 100000
section
namespace Go.Proofs.YtipafadbhmngnaaGreatDoor.F
open Go.RowKit Go.Proofs.YtipafadbhmngnaaGreatDoorW.PrintWords Go.Proofs.YtipafadbhmngnaaGreatDoorW.PrintLast Go.Proofs.YtipafadbhmngnaaGreatDoorW.PrintMore
attribute [local go_sem] max2_int min2_int max_two min_two max_three min_three max_four min_four
set_option linter.unusedVariables false
set_option linter.unusedSimpArgs false
theorem txtC_put {xs : List ByteArray} {q : Nat} (h : q < xs.length) {s : ByteArray} (hs : xs[q]? = some s) : (txtC xs q).setIfInBounds q (.string s) = txtC xs (q + 1) := by
  have hl : ((xs.take q).map Value.string).length = q := by rw [List.length_map, List.length_take]; omega
  unfold txtC
  rw [show xs.length - q = (xs.length - (q + 1)) + 1 by omega, List.replicate_succ, List.take_add_one, hs]
  simp only [Option.toList_some, List.map_append, List.map_cons, List.setIfInBounds_toArray, List.map_nil, List.append_assoc]
  congr 1
  rw [List.set_append_right _ _ (by omega), hl, Nat.sub_self]
  rfl
theorem txtL_len (S : List S82) (W H : Nat) : (txtL S W H).length = H := by simp [txtL]
theorem txtL_at (S : List S82) (W H y : Nat) (h : y < H) : (txtL S W H)[y]? = some (strOfNums (rowI S W y)) := by simp [txtL, h]
theorem join_le (m : Nat) : ∀ (xs : List (List UInt8)), (∀ x ∈ xs, x.length ≤ m) → (Lib.join xs [47]).length ≤ (m + 1) * xs.length
  | [], _ => Nat.zero_le _
  | x :: r, h => by
    have h1 := h x List.mem_cons_self
    have key : ∀ r : List (List UInt8), (∀ x ∈ r, x.length ≤ m) → (Lib.joinTail [47] r).length ≤ (m + 1) * r.length := by
      intro r
      induction r with
      | nil => intro _; exact Nat.zero_le _
      | cons a r ih =>
        intro h
        have h1 := h a List.mem_cons_self
        have h2 := ih fun x hx => h x (List.mem_cons_of_mem _ hx)
        unfold Lib.joinTail at h2 ⊢
        simp only [List.map_cons, List.flatten_cons, List.length_append, List.length_cons, List.length_nil, Nat.mul_succ]
        omega
    have h2 := key r fun x hx => h x (List.mem_cons_of_mem _ hx)
    rw [Lib.join_cons]
    simp only [List.length_append, List.length_cons, Nat.mul_succ]
    omega
theorem join9 (g n c : Nat) (xs : List ByteArray) (w : World) (hx : xs.length = n) (hcell : w.heap[g]? = some (.cells (txtC xs n) 9 (0, 0))) (hc : n ≤ c) (hn : n ≤ 100001) (hl : ∀ x ∈ xs, x.size ≤ 100001) :
    Calls Tryz.prog 90 #[.slice (some ⟨g, 0, none⟩) n c, .string ⟨#[47]⟩] w fun e w' => e = .returned (.string (joinT xs)) ∧ Below w.heap.size w w' := by
  subst hx
  refine Any.strings_Join Tryz.lays156 Tryz.Builder_Extra_156 g 0 c xs ⟨#[47]⟩ w (fun j x hj => ?_) (blk_lt hcell) (by omega) hc ?_
  · have hjl := (List.getElem?_eq_some_iff.1 hj).1
    rw [Nat.zero_add, blk_cell hcell]
    unfold txtC
    rw [List.take_length, Nat.sub_self, List.replicate_zero, List.append_nil, List.getElem?_toArray, List.getElem?_map, hj]
    rfl
  · have h1 := join_le 100001 (xs.map (·.data.toList)) (fun x hx => by
      obtain ⟨s, hs, rfl⟩ := List.mem_map.1 hx
      have := hl s hs
      show s.data.toList.length ≤ _
      rw [Array.length_toList]
      exact this)
    rw [List.length_map] at h1
    show (Lib.join (xs.map (·.data.toList)) [47]).length ≤ _
    have h2 : (100001 + 1) * xs.length ≤ 100002 * 100001 := Nat.mul_le_mul_left _ hn
    omega
theorem rep9 (n : Nat) (hn : n ≤ 100001) (w : World) : Calls Tryz.prog 89 #[.string ⟨#[46]⟩, .int .i64 n] w fun e w' => e = .returned (.string ⟨(Lib.repeatL [46] n).toArray⟩) ∧ Below w.heap.size w w' :=
  Any.strings_Repeat Tryz.lays105 Tryz.Builder_Extra_105 ⟨#[46]⟩ n w (by omega) (by show 1 * n ≤ _; omega)
theorem impl_shapeText.calls (k : Nat) (A0 : Option Addr) (c0 : Nat) (l0 : List S82) (r : ByteArray) (w : World) (hr0 : Kd.C k82 w A0 l0.length l0) (hc0 : l0.length ≤ c0) (h : impl_shapeText.f k l0 = some r) :
    Calls Tryz.prog 62 #[.slice A0 l0.length c0] w fun e w' => e = .returned (.string r) ∧ Below w.heap.size w w' := by
  have hu := Tryz.underlying82
  have HR0 := aM hr0
  have HC0 := aM hc0
  clear hr0 hc0
  unfold impl_shapeText.f at h
  obtain ⟨own, ho, h⟩ := Option.bind_eq_some_iff.mp h
  obtain ⟨⟨m1, m2⟩, hm, h⟩ := Option.bind_eq_some_iff.mp h
  by_cases hg : ¬ ((own.length ≤ 1000000 ∧ 0 ≤ m1 ∧ m1 ≤ 100000 ∧ 0 ≤ m2 ∧ m2 ≤ 100000) ∧ own.all (inBox m1 m2) = true)
  · rw [if_neg hg] at h
    cases h
  replace hg := Classical.not_not.1 hg
  rw [if_pos hg] at h
  simp only [Option.some.injEq] at h
  subst h
  obtain ⟨⟨g1, g2, g3, g4, g5⟩, g6⟩ := hg
  obtain ⟨W, rfl⟩ := Int.eq_ofNat_of_zero_le g2
  obtain ⟨H, rfl⟩ := Int.eq_ofNat_of_zero_le g4
  simp only [Int.toNat_natCast]
  have HO := aM ho
  have HM := aM hm
  have G1 := aM g1
  have GW := aM (show W ≤ 100000 by omega)
  have GH := aM (show H ≤ 100000 by omega)
  have G6 := aM g6
  obtain ⟨W1, hW1⟩ : ∃ n, n = W + 1 := ⟨_, rfl⟩
  obtain ⟨H1, hH1⟩ : ∃ n, n = H + 1 := ⟨_, rfl⟩
  rw [← hW1, ← hH1]
  have EW := aM hW1
  have EH := aM hH1
  clear ho hm g1 g2 g3 g4 g5 g6 hW1 hH1 h
  go_enter Tryz.func62, Tryz.ntmps62
  go_wp2_with (first
    | (go_at_call 88; refine (impl_normal.calls k A0 c0 l0 own _ HR0.out HC0.out HO.out).mono ?_; rintro e w1 ⟨v0, rfl, hr, hb1⟩; have HB1 := aM hb1; obtain ⟨A1, c1, rfl⟩ := Kd.R_slice hr; have HR1 := aM (Kd.R_reads' hr).2.2; have HC1 := aM (Kd.R_reads' hr).2.1; clear hb1 hr)
    | (go_at_call 74; refine (impl_reach.calls k A1 c1 own (W : Int) (H : Int) _ HR1.out HC1.out HM.out).mono ?_; rintro e w2 ⟨rfl, hb2⟩; have HB2 := aM hb2; clear hb2)
    | ((with_reducible refine gate_dst (N := 4) rfl ?_); refine zx 4 #[.int .i64 0, .int .i64 0] 82 ?_; intro g4 hg4 w3 hbox hb; have HB3 := aM (below_step HB2.out hb); have GE4 := aM (show w1.heap.size ≤ g4 by rw [hg4]; exact below_size HB2.out); have H4 := aM hbox; clear hb hg4 HB2; have hcz4_0 : w3.cell? ⟨g4, 0, none⟩ = some (.int .i64 0) := (blk_cell hbox 0).trans rfl; have hcz4_1 : w3.cell? ⟨g4, 1, none⟩ = some (.int .i64 0) := (blk_cell hbox 1).trans rfl; have hfz4_0 := blk_frozen hbox 0; have hfz4_1 := blk_frozen hbox 1; clear hbox)
    | ((with_reducible refine gate_dst (N := 19) rfl ?_); refine make_event ?hg (N := 19) ?hd 102 39 (.tmp 18) (.tmp 18) rfl H1 ?hx ?hy Tryz.underlying102 (.slice none 0 0) 24 (by kernel_rfl) rfl ?hl ?hn ?_; (case hd => rfl); (case hg => rfl); (case hx => exact congrArg (Value.int .i64) ((w9_ GH.out).trans (by rw [EH.out]))); (case hy => exact congrArg (Value.int .i64) ((w9_ GH.out).trans (by rw [EH.out]))); (case hl => have := GH.out; have := EH.out; omega); (case hn => have := GH.out; have := EH.out; omega); intro gR hgR w4 hrow hb; have H4_ := blk_put (cs' := #[.int .i64 (W : Int), .int .i64 (H : Int)]) (blk_put (cs' := #[.int .i64 (W : Int), .int .i64 0]) H4.out 0 (.int .i64 (W : Int)) rfl) 1 (.int .i64 (H : Int)) rfl; have HB4_ := below_set (j := 1) (v := .int .i64 (H : Int)) (below_set (j := 0) (v := .int .i64 (W : Int)) HB3.out GE4.out) GE4.out; have GER := aM (show w1.heap.size ≤ gR by rw [hgR]; exact below_size HB4_); have NR4 := aM (show gR ≠ g4 by rw [hgR]; exact Nat.ne_of_gt (blk_lt H4_)); have H4b := aM (blk_below H4_ hb); have HRW := aM (rw_make (w0 := w1) (W := W1) (H := H1) (S := []) (by rw [outer0]; exact hrow) GER.out (below_step HB4_ hb)); clear hb hgR hrow H4_ HB4_ H4 HB3 hcz4_0 hcz4_1 hfz4_0 hfz4_1))
  go_loopg [22] H1 (fun gg v22 w' => ∃ (jj : Nat) (bs : List (Nat × Nat)), v22 = .int .i64 jj ∧ Aside0 (jj ≤ H1 ∧ H1 - jj ≤ gg ∧ bs.length = jj) ∧ Aside0 (w'.heap[g4]? = some (.cells #[.int .i64 (W : Int), .int .i64 (H : Int)] 82 (0, 0))) ∧ Aside0 (RW w1 w' gR W1 H1 bs []))
  case atStart => exact ⟨0, [], rfl, ⟨Nat.zero_le _, by omega, rfl⟩, H4b, HRW⟩
  case round =>
    clear H4b HRW
    obtain ⟨jj, bs, rfl, HJ, H4, HRW⟩ := hrel
    by_cases hlt : jj < H1
    · have hltz : decide ((jj : Int) < (H1 : Int)) = true := decide_eq_true (by omega)
      have p7 : (0 ≤ (jj : Int)) = True := eq_true (by omega)
      have q7 : ((jj : Int) < (H1 : Int)) = True := eq_true (by omega)
      have HLT := aM hlt
      clear hlt
      have hcz4_0 : wr.cell? ⟨g4, 0, none⟩ = some (.int .i64 (W : Int)) := (blk_cell H4.out 0).trans rfl
      go_wp2_with (first
        | (go_at_call 89; rw [w9_ GW.out, ← EW.out]; refine (rep9 W1 (by have := GW.out; have := EW.out; omega) _).mono ?_; rintro e w5 ⟨rfl, hb5⟩; have HRW5 := aM (rw_below HRW.out hb5); have H45 := aM (blk_below H4.out hb5); clear hb5 HRW H4 hcz4_0)
        | ((with_reducible refine gate_dst (N := 31) rfl ?_); refine bytes_event ?hg (N := 31) ?hd 9 39 5 (.tmp 30) rfl ⟨(Lib.repeatL [46] W1).toArray⟩ rfl Tryz.underlying9 Tryz.underlying39 Tryz.underlying5 rfl ?_; (case hd => rfl); (case hg => rfl); intro g9 c9 hg9 w6 hrb hb6; have hs9 : (⟨(Lib.repeatL [46] W1).toArray⟩ : ByteArray).size = W1 := rep_size W1; have HRB := aM (show RowB w6 g9 W1 fun x => dotI [] x jj from by obtain ⟨cs, fr, q1, q2, q3⟩ := hrb; refine ⟨cs, fr, q1, hs9 ▸ q2, fun x hx => ?_⟩; rw [q3 x (by rw [hs9]; exact hx)]; show some (Value.int .u8 (((Lib.repeatL [46] W1).getD x 0).toNat : Int)) = _; rw [getD_rep W1 x hx]; rfl); rw [hs9]; have HRW6 := aM (rw_below HRW5.out hb6); have H46 := aM (blk_below H45.out hb6); have N9 := aM (show (∀ p ∈ bs, p.1 ≠ g9) ∧ gR ≠ g9 ∧ g4 ≠ g9 ∧ w1.heap.size ≤ g9 by rw [hg9]; exact ⟨fun p hp => by obtain ⟨y, hy⟩ := List.getElem?_of_mem hp; exact Nat.ne_of_lt (rowB_lt (HRW5.out.2.2.2.2.1 y p hy)), Nat.ne_of_lt (blk_lt HRW5.out.1), Nat.ne_of_lt (blk_lt H45.out), below_size HRW5.out.2.2.2.2.2⟩); clear hrb hs9 hg9 hb6 HRW5 H45; have hcR : w6.cell? ⟨gR, jj, none⟩ = some (.slice none 0 0) := (blk_cell HRW6.out.1 jj).trans (by have h1 := HJ.out.2.2; have h2 := HLT.out; subst h1; exact outer_next h2); have hfR := blk_frozen HRW6.out.1 jj))
      go_roundg (H1 - (jj + 1))
      case measure => have := HJ.out; have := HLT.out; omega
      case rel =>
        have e9 := HJ.out.2.2
        refine ⟨jj + 1, bs ++ [(g9, c9)], by rw [w9_ (by have := HLT.out; have := EH.out; have := GH.out; omega)], ⟨HLT.out, Nat.le_refl _, by rw [List.length_append, List.length_singleton, e9]⟩, ⟨blk_far H46.out (Ne.symm NR4.out) _⟩, ⟨?_⟩⟩
        subst e9
        exact rw_add HRW6.out HLT.out HRB.out N9.out.2.2.2 (Ne.symm N9.out.2.1) N9.out.1
    · have hltz : decide ((jj : Int) < (H1 : Int)) = false := decide_eq_false (by omega)
      have e : jj = H1 := by have := HJ.out.1; omega
      have HLB := aM (HJ.out.2.2.trans e)
      clear hlt HJ H4
      subst e
      go_wp2
      go_loopg [36] own.length (fun gg v36 w' => ∃ ii : Nat, v36 = .int .i64 ii ∧ Aside0 (ii ≤ own.length ∧ own.length - ii ≤ gg) ∧ Aside0 (RW w1 w' gR W1 jj bs (own.take ii)))
      case atStart => exact ⟨0, rfl, ⟨Nat.zero_le _, Nat.le_refl _⟩, ⟨by rw [List.take_zero]; exact HRW.out⟩⟩
      case round =>
        clear HRW
        obtain ⟨ii, rfl, HI, HRW⟩ := hrel
        by_cases hli : ii < own.length
        · have hliz : decide ((ii : Int) < (own.length : Int)) = true := decide_eq_true (by omega)
          have p9 : 0 ≤ (ii : Int) := by omega
          have q9 : (ii : Int) < (own.length : Int) := by omega
          obtain ⟨ad9, e9, hx9, hy9⟩ := at_T82 (Kd.C_below HR1.out HRW.out.2.2.2.2.2) (ii : Int) p9 q9
          cases e9
          rw [Int.toNat_natCast] at hx9 hy9
          replace p9 := eq_true p9
          replace q9 := eq_true q9
          have hbx : inBox (W : Int) (H : Int) (rd_T82 own (ii : Int)) = true := List.all_eq_true.1 G6.out _ (by
            have : rd_T82 own (ii : Int) = own[ii] := by simp [rd_T82, List.getD, hli]
            rw [this]
            exact List.getElem_mem hli)
          have hnx : own.take (ii + 1) = own.take ii ++ [rd_T82 own (ii : Int)] := by
            rw [List.take_add_one, List.getElem?_eq_getElem hli]
            simp [rd_T82, List.getD, hli]
          generalize rd_T82 own (ii : Int) = z at hx9 hy9 hbx hnx
          obtain ⟨z0, z1⟩ := z
          unfold inBox at hbx
          rw [decide_eq_true_iff] at hbx
          obtain ⟨b1, b2, b3, b4⟩ := hbx
          obtain ⟨x, rfl⟩ := Int.eq_ofNat_of_zero_le b1
          obtain ⟨y, rfl⟩ := Int.eq_ofNat_of_zero_le b3
          have hxW : x < W1 := by have := EW.out; simp only at b2; omega
          have hyH : y < jj := by have := EH.out; simp only at b4; omega
          obtain ⟨p, hp⟩ : ∃ p, bs[y]? = some p := ⟨bs[y]'(by rw [HLB.out]; exact hyH), List.getElem?_eq_getElem _⟩
          have HP := aM hp
          have HXW := aM hxW
          have HNX := aM hnx
          have HLI := aM hli
          have px : (0 ≤ (x : Int)) = True := eq_true (by omega)
          have qx : ((x : Int) < (W1 : Int)) = True := eq_true (by omega)
          have py : (0 ≤ (y : Int)) = True := eq_true (by omega)
          have qy : ((y : Int) < (jj : Int)) = True := eq_true (by omega)
          clear b1 b2 b3 b4 hp hxW hyH hnx hli
          simp only at hx9 hy9
          go_wp2_with (first
            | ((with_reducible refine gate_dst (N := 8) rfl ?_); refine zx 8 #[.int .i64 0, .int .i64 0] 82 ?_; intro g8 hg8 w7 hbox hb; have hx9' := pw_cell_below hb hx9; have hy9' := pw_cell_below hb hy9; have HRW7 := aM (rw_below HRW.out hb); have NE8 := aM (rw_old HRW7.out hbox (fun cs fr => ⟨by simp, by simp⟩)); have GE8 := aM (show w1.heap.size ≤ g8 by rw [hg8]; exact below_size HRW.out.2.2.2.2.2); clear hb hg8 HRW hx9 hy9; have hcz8_0 : w7.cell? ⟨g8, 0, none⟩ = some (.int .i64 0) := (blk_cell hbox 0).trans rfl; have hcz8_1 : w7.cell? ⟨g8, 1, none⟩ = some (.int .i64 0) := (blk_cell hbox 1).trans rfl; have hfz8_0 := blk_frozen hbox 0; have hfz8_1 := blk_frozen hbox 1; have HBX := aM hbox; clear hbox))
          have HRW8 := aM (rw_far (rw_far HRW7.out NE8.out.1 NE8.out.2 GE8.out 0 (.int .i64 (x : Int))) NE8.out.1 NE8.out.2 GE8.out 1 (.int .i64 (y : Int)))
          have HBY_ := blk_put (cs' := #[.int .i64 (x : Int), .int .i64 (y : Int)]) (blk_put (cs' := #[.int .i64 (x : Int), .int .i64 0]) HBX.out 0 (.int .i64 (x : Int)) rfl) 1 (.int .i64 (y : Int)) rfl
          clear HRW7 HBX hcz8_0 hcz8_1 hfz8_0 hfz8_1 hx9' hy9'
          generalize (w7.setCell ⟨g8, 0, none⟩ (.int .i64 (x : Int))).setCell ⟨g8, 1, none⟩ (.int .i64 (y : Int)) = w8 at HRW8 HBY_ ⊢
          have hk0 : w8.cell? ⟨g8, 0, none⟩ = some (.int .i64 (x : Int)) := (blk_cell HBY_ 0).trans rfl
          have hk1 : w8.cell? ⟨g8, 1, none⟩ = some (.int .i64 (y : Int)) := (blk_cell HBY_ 1).trans rfl
          have hk2 := rw_cell HRW8.out (Nat.le_of_eq HLB.out) HP.out
          obtain ⟨hk3, hk4⟩ := rw_byte HRW8.out HP.out HXW.out
          obtain ⟨b, c⟩ := p
          unfold sl9 at hk2
          simp only at hk2 hk3 hk4
          have hnb1 : g8 ≠ b := Ne.symm (NE8.out.2 (b, c) (List.mem_of_getElem? HP.out))
          have hnb2 : gR ≠ b := Ne.symm (HRW8.out.2.2.1 (b, c) (List.mem_of_getElem? HP.out)).2
          clear HBY_
          go_region_held3 (fun w' => w'.cell? ⟨g8, 1, none⟩ = some (.int .i64 (y : Int)) ∧ w'.cell? ⟨g8, 0, none⟩ = some (.int .i64 (x : Int)) ∧ w'.cell? ⟨gR, y, none⟩ = some (.slice (some ⟨b, 0, none⟩) W1 c)) (first | exact ⟨hk1, hk0, hk2⟩ | exact ⟨(cell_far (p := ⟨b, x, none⟩) hnb1 _).trans hk1, (cell_far (p := ⟨b, x, none⟩) hnb1 _).trans hk0, (cell_far (p := ⟨b, x, none⟩) hnb2 _).trans hk2⟩) (fail)
          go_wp2
          go_roundg (own.length - (ii + 1))
          case measure => have := HI.out; have := HLI.out; omega
          case rel => exact ⟨ii + 1, by rw [show wrap64 ((ii : Int) + 1) = ((ii + 1 : Nat) : Int) from by have := HLI.out; have := G1.out; unfold wrap64; omega], ⟨HLI.out, Nat.le_refl _⟩, ⟨by rw [HNX.out]; exact rw_below (rw_put HRW8.out HP.out HXW.out) (below_drew1 (Below.refl _ _))⟩⟩
        · have hliz : decide ((ii : Int) < (own.length : Int)) = false := decide_eq_false (by omega)
          have e : ii = own.length := by have := HI.out.1; omega
          subst e
          rw [List.take_length] at HRW
          clear hli HI
          go_wp2_with (first
            | ((with_reducible refine gate_dst (N := 51) rfl ?_); refine make_event ?hg (N := 51) ?hd 56 9 (.tmp 50) (.tmp 50) rfl jj rfl rfl Tryz.underlying56 (.string ByteArray.empty) 16 (by kernel_rfl) rfl ?hl ?hn ?_; (case hd => rfl); (case hg => rfl); (case hl => have := GH.out; have := EH.out; omega); (case hn => have := GH.out; have := EH.out; omega); intro gT hgT w9 hrow hb; have HRW9 := aM (rw_below HRW.out hb); have NET := aM (rw_old HRW9.out hrow (fun cs fr => ⟨by simp, by simp⟩)); have GET := aM (show w1.heap.size ≤ gT by rw [hgT]; exact below_size HRW.out.2.2.2.2.2); have HTX := aM (show w9.heap[gT]? = some (.cells (txtC (txtL own W1 jj) 0) 9 (0, 0)) from by rw [hrow]; unfold txtC; rw [txtL_len]; rfl); clear hrow hb hgT HRW))
          go_loopg [54] jj (fun gg v54 w' => ∃ qq : Nat, v54 = .int .i64 qq ∧ Aside0 (qq ≤ jj ∧ jj - qq ≤ gg) ∧ Aside0 (w'.heap[gT]? = some (.cells (txtC (txtL own W1 jj) qq) 9 (0, 0))) ∧ Aside0 (RW w1 w' gR W1 jj bs own))
          case atStart => exact ⟨0, rfl, ⟨Nat.zero_le _, Nat.le_refl _⟩, HTX, HRW9⟩
          case round =>
            clear HTX HRW9
            obtain ⟨qq, rfl, HQ, HTX, HRW⟩ := hrel
            by_cases hlq : qq < jj
            · have hlqz : decide ((qq : Int) < (jj : Int)) = true := decide_eq_true (by omega)
              have p3 : (0 ≤ (qq : Int)) = True := eq_true (by omega)
              have q3 : ((qq : Int) < (jj : Int)) = True := eq_true (by omega)
              obtain ⟨p, hp⟩ : ∃ p, bs[qq]? = some p := ⟨bs[qq]'(by rw [HLB.out]; exact hlq), List.getElem?_eq_getElem _⟩
              have HP := aM hp
              have HLQ := aM hlq
              have hk2 := rw_cell HRW.out (Nat.le_of_eq HLB.out) hp
              have HRB := aM (HRW.out.2.2.2.2.1 qq p hp)
              obtain ⟨b, c⟩ := p
              unfold sl9 at hk2
              simp only at hk2
              have hcT : wr.cell? ⟨gT, qq, none⟩ = some (.string ByteArray.empty) := (blk_cell HTX.out qq).trans (txtC_at (by rw [txtL_len]; exact hlq))
              have hfT := blk_frozen HTX.out qq
              clear hp hlq
              go_wp2_with (first
                | ((with_reducible refine gate_dst (N := 62) rfl ?_); refine str_event ?hg (N := 62) ?hd 39 9 (.tmp 61) rfl b W1 c rfl Tryz.underlying39 Tryz.underlying5 Tryz.underlying9 HRB.out ?_; (case hd => rfl); (case hg => rfl)))
              go_roundg (jj - (qq + 1))
              case measure => have := HQ.out; have := HLQ.out; omega
              case rel => exact ⟨qq + 1, by rw [w9_ (by have := HLQ.out; have := EH.out; have := GH.out; omega)], ⟨HLQ.out, Nat.le_refl _⟩, ⟨blk_put HTX.out qq _ (txtC_put (by rw [txtL_len]; exact HLQ.out) (txtL_at own W1 jj qq HLQ.out))⟩, ⟨rw_far HRW.out NET.out.1 NET.out.2 GET.out qq _⟩⟩
            · have hlqz : decide ((qq : Int) < (jj : Int)) = false := decide_eq_false (by omega)
              have e : qq = jj := by have := HQ.out.1; omega
              subst e
              clear hlq HQ
              go_wp2_with (first
                | (go_at_call 90; refine (join9 gT qq qq (txtL own W1 qq) _ (txtL_len _ _ _) HTX.out (Nat.le_refl _) ?hn ?hl).mono ?_; (case hn => have := GH.out; have := EH.out; omega); (case hl => intro x hx; obtain ⟨i, hi⟩ := List.getElem?_of_mem hx; have hi2 := (List.getElem?_eq_some_iff.1 hi).1; rw [txtL_len] at hi2; rw [txtL_at own W1 qq i hi2] at hi; obtain rfl := Option.some.inj hi; rw [strOfNums_size]; unfold rowI; rw [List.length_map, List.length_range]; have := GW.out; have := EW.out; omega); rintro e w10 ⟨rfl, hb10⟩))
              go_ret
              exact ⟨rfl, below_step HB1.out (below_step HRW.out.2.2.2.2.2 hb10)⟩
def strconv_FormatInt_63.f (a0 : Int) (a1 : Int) : Option ByteArray := if 0 ≤ a0 ∧ a0 < 100 ∧ a1 = 10 then some ⟨(Lib.decDigits a0.toNat).toArray⟩ else none
theorem strconv_FormatInt_63.calls (a0 : Int) (a1 : Int) (r : ByteArray) (w : World) (h : strconv_FormatInt_63.f a0 a1 = some r) :
    Calls Tryz.prog 63 #[.int .i64 a0, .int .i64 a1] w fun e w' => e = .returned (.string r) ∧ ∃ q, w' = w.drewN q := by
  unfold strconv_FormatInt_63.f at h
  by_cases hg : 0 ≤ a0 ∧ a0 < 100 ∧ a1 = 10
  · rw [if_pos hg] at h
    obtain rfl := Option.some.inj h
    obtain ⟨h0, h1, rfl⟩ := hg
    obtain ⟨n, rfl⟩ := Int.eq_ofNat_of_zero_le h0
    rw [Int.toNat_natCast]
    exact (Any.strconv_FormatInt_10_small Tryz.lays173 n (by omega) w).mono fun e w' ⟨he, hw⟩ => ⟨he, 0, hw⟩
  · rw [if_neg hg] at h
    cases h
end Go.Proofs.YtipafadbhmngnaaGreatDoor.F
end
section
namespace Go.Proofs.YtipafadbhmngnaaGreatDoor.F
open Go.RowKit Go.Proofs.YtipafadbhmngnaaGreatDoorW.PrintWords Go.Proofs.YtipafadbhmngnaaGreatDoorW.PrintLast Go.Proofs.YtipafadbhmngnaaGreatDoorW.PrintMore
attribute [local go_sem] max2_int min2_int max_two min_two max_three min_three max_four min_four
set_option linter.unusedVariables false
set_option linter.unusedSimpArgs false
def impl_puzzleText.l0 : Nat → ByteArray → List (S50) → Int → Int → Option (ByteArray)
 | 0, _, _, _, _ => none
 | k + 1, x3, x11, x12, x13 => if x13 < x12 then (if 0 ≤ x13 then (if x13 < (x11.length : Int) then (if (rd_T50 x11 x13).f2 = true then ((strconv_FormatInt_63.f ((rd_T50 x11 x13).f1) 10).bind fun t522 => (if 1 + t522.size ≤ 9223372036854775807 then (if ((⟨#[32]⟩ : ByteArray) ++ t522).size + 1 ≤ 9223372036854775807 then ((impl_shapeText.f k ((rd_T50 x11 x13).f0)).bind fun t523 => (if (((⟨#[32]⟩ : ByteArray) ++ t522) ++ (⟨#[42]⟩ : ByteArray)).size + t523.size ≤ 9223372036854775807 then (if x3.size + ((((⟨#[32]⟩ : ByteArray) ++ t522) ++ (⟨#[42]⟩ : ByteArray)) ++ t523).size ≤ 9223372036854775807 then (impl_puzzleText.l0 k (x3 ++ ((((⟨#[32]⟩ : ByteArray) ++ t522) ++ (⟨#[42]⟩ : ByteArray)) ++ t523)) x11 x12 (wrap64 (x13 + 1))) else (none)) else (none))) else (none)) else (none))) else ((strconv_FormatInt_63.f ((rd_T50 x11 x13).f1) 10).bind fun t524 => (if 1 + t524.size ≤ 9223372036854775807 then (if ((⟨#[32]⟩ : ByteArray) ++ t524).size + 1 ≤ 9223372036854775807 then ((impl_shapeText.f k ((rd_T50 x11 x13).f0)).bind fun t525 => (if (((⟨#[32]⟩ : ByteArray) ++ t524) ++ (⟨#[43]⟩ : ByteArray)).size + t525.size ≤ 9223372036854775807 then (if x3.size + ((((⟨#[32]⟩ : ByteArray) ++ t524) ++ (⟨#[43]⟩ : ByteArray)) ++ t525).size ≤ 9223372036854775807 then (impl_puzzleText.l0 k (x3 ++ ((((⟨#[32]⟩ : ByteArray) ++ t524) ++ (⟨#[43]⟩ : ByteArray)) ++ t525)) x11 x12 (wrap64 (x13 + 1))) else (none)) else (none))) else (none)) else (none)))) else (none)) else (none)) else (some x3)
def impl_puzzleText.f (k : Nat) (l0_0 : List (S82)) (l0_1 : List (S50)) : Option (ByteArray) := (impl_shapeText.f k l0_0).bind fun t519 => (impl_puzzleText.l0 k t519 l0_1 (l0_1.length : Int) 0)
def impl_puzzleText.T8 : Bool × List (List Nat × List Nat) := (true, [([], []), ([], []), ([1], [1]), ([2], [2]), ([3], [3]), ([], []), ([4, 5], [4, 5]), ([], []), ([7], [7]), ([8, 3], [8]), ([6, 9], [6, 9]), ([0, 10], [0, 10]), ([11, 9, 0, 1, 2, 3, 4, 5, 6, 7, 8, 9, 10, 11], [0, 11])])
def impl_puzzleText.B8 : List Nat := [0, 0, 2, 6, 14, 0, 62, 0, 128, 398, 1022, 2047, 4095]
theorem impl_puzzleText.tab8 : rtab .any (opsOf Tryz.f30 8) = impl_puzzleText.T8 := by kernel_rfl
theorem impl_puzzleText.bits8 : waitsOk impl_puzzleText.T8.2 impl_puzzleText.B8 = true := by kernel_rfl
theorem impl_puzzleText.calls (k : Nat) (A0_0 : Option Addr) (c0_0 : Nat) (l0_0 : List (S82)) (A0_1 : Option Addr) (c0_1 : Nat) (l0_1 : List (S50)) (r : ByteArray) (w : World) (hr0_0 : Kd.C k82 w A0_0 l0_0.length l0_0) (hc0_0 : l0_0.length ≤ c0_0) (hr0_1 : Kd.C k50 w A0_1 l0_1.length l0_1) (hc0_1 : l0_1.length ≤ c0_1) (h : impl_puzzleText.f k l0_0 l0_1 = some r) :
  Calls Tryz.prog 30 #[.agg #[.slice A0_0 l0_0.length c0_0, .slice A0_1 l0_1.length c0_1]] w fun e w' => e = .returned (.string r) ∧ Below w.heap.size w w' := by
 have hu31 := Tryz.underlying31
 have hu50 := Tryz.underlying50
 have HR0_0 := aM hr0_0
 have HC0_0 := aM hc0_0
 clear hr0_0 hc0_0
 have HR0_1 := aM hr0_1
 have HC0_1 := aM hc0_1
 clear hr0_1 hc0_1
 have HB := aM (Below.refl w.heap.size w)
 have H : ((impl_shapeText.f k l0_0).bind fun t519 => (impl_puzzleText.l0 k t519 l0_1 (l0_1.length : Int) 0)) = some r := h
 clear h
 replace H := Option.bind_eq_some_iff.mp H
 obtain ⟨t519, A20, H⟩ := H
 replace H : (impl_puzzleText.l0 k t519 l0_1 (l0_1.length : Int) 0) = some r := H
 have A2 := aM A20
 clear A20
 have H' := aM H
 clear H
 go_enter Tryz.func30, Tryz.ntmps30
 go_wp2_with (first | ((with_reducible refine gate_dst (N := 1) rfl ?_); refine zx 1 #[.slice A0_0 l0_0.length c0_0, .slice A0_1 l0_1.length c0_1] 31 ?_; intro gb518 hg w3 hbox hb; have _ := aM (below_step zb hb); have _ := aM (hbox); have _ := aM ((ze : w.heap.size ≤ gb518)); have _ := aM ((ze : w.heap.size ≤ gb518)); clear HB; rename_i HB BK518 GW518 GE518; clear hb hbox hg; obtain ⟨hcz4_0, hcz4_1, hfz4_0, hfz4_1⟩ := zQ2 BK518.out) | ((with_reducible refine gate_callee (f := 62) rfl ?_); refine goesL_ (some 9) rfl rfl Tryz.func62 (by kernel_rfl) rfl #[.slice A0_0 l0_0.length c0_0] rfl zm ?_; (with_reducible refine (impl_shapeText.calls k _ _ l0_0 t519 _ ?side1 ?side2 A2.out).mono ?_); (case side1 => repeat (first | exact (Kd.C_below HR0_0.out HB.out) | (with_reducible refine Kd.C_alloc ?_ _) | (with_reducible refine Kd.C_drewN ?_ _) | (with_reducible refine Kd.C_drew ?_))); (case side2 => exact HC0_0.out); rintro e w5 ⟨rfl, hb⟩; refine ⟨_, rfl, ?_⟩; have _ := aM (blk_below (g := gb518) (o := .cells #[.slice A0_0 l0_0.length c0_0, .slice A0_1 l0_1.length c0_1] 31 (0, 0)) (mB_ BK518.out) hb); have _ := aM (below_step (zs GE518.out) hb); clear BK518 HB; rename_i BK518 HB; (try clear hb); (try clear hb2); (try clear hk); (try clear hi); obtain ⟨hcz6_0, hcz6_1, hfz6_0, hfz6_1⟩ := zQ2 BK518.out))
 go_loopg [3, 13] k (fun kq v3 v13 w' => ∃ (x3_1 : ByteArray) (x13_1 : Int), v3 = .string x3_1 ∧ v13 = .int .i64 x13_1 ∧ Aside0 (impl_puzzleText.l0 kq x3_1 l0_1 (l0_1.length : Int) x13_1 = some r) ∧ Aside0 (kq ≤ k) ∧ Aside0 (w'.heap[gb518]? = some (.cells #[(.slice A0_0 l0_0.length c0_0), (.slice A0_1 l0_1.length c0_1)] 31 (0, 0))) ∧ Aside0 (Below w.heap.size w w'))
 case atStart => exact ⟨(t519), (0), zr, zr, H', ⟨Nat.le_refl _⟩, ⟨mB_ BK518.out⟩, ⟨zs GE518.out⟩⟩
 case round =>
  clear H'
  try clear p2
  try clear c3
  try clear c6
  try clear hcz4_0
  try clear hcz4_1
  try clear hcz6_0
  try clear hcz6_1
  try clear hfz4_0
  try clear hfz4_1
  try clear hfz6_0
  try clear hfz6_1
  obtain ⟨x3_1, x13_1, rfl, rfl, HA, HK1, BK518, HB⟩ := hrel
  cases gk with
  | zero => exact absurd HA.out (by simp [impl_puzzleText.l0])
  | succ k1 =>
   have H := HA.out
   clear HA
   simp only [impl_puzzleText.l0] at H
   by_cases c7 : x13_1 < (l0_1.length : Int)
   rotate_left
   ·rw [if_neg c7] at H
    have c7b0 : decide (x13_1 < (l0_1.length : Int)) = false := decide_eq_false c7
    clear c7
    obtain rfl := Option.some.inj H
    go_wp2
    go_ret
    exact ⟨zw, zs GE518.out⟩
   rw [if_pos c7] at H
   have c7b0 : decide (x13_1 < (l0_1.length : Int)) = true := decide_eq_true c7
   clear c7
   by_cases c8 : 0 ≤ x13_1
   rotate_left
   ·rw [if_neg c8] at H
    exact absurd H (by simp)
   rw [if_pos c8] at H
   have c8b0 : decide (0 ≤ x13_1) = true := decide_eq_true c8
   clear c8
   by_cases c9 : x13_1 < (l0_1.length : Int)
   rotate_left
   ·rw [if_neg c9] at H
    exact absurd H (by simp)
   rw [if_pos c9] at H
   have c9b0 : decide (x13_1 < (l0_1.length : Int)) = true := decide_eq_true c9
   clear c9
   obtain ⟨bq10, hbq10⟩ : ∃ b_ : Bool, b_ = ((rd_T50 l0_1 x13_1).f2) := ⟨_, rfl⟩
   replace H : (if bq10 = true then ((strconv_FormatInt_63.f ((rd_T50 l0_1 x13_1).f1) 10).bind fun t522 => (if 1 + t522.size ≤ 9223372036854775807 then (if ((⟨#[32]⟩ : ByteArray) ++ t522).size + 1 ≤ 9223372036854775807 then ((impl_shapeText.f k1 ((rd_T50 l0_1 x13_1).f0)).bind fun t523 => (if (((⟨#[32]⟩ : ByteArray) ++ t522) ++ (⟨#[42]⟩ : ByteArray)).size + t523.size ≤ 9223372036854775807 then (if x3_1.size + ((((⟨#[32]⟩ : ByteArray) ++ t522) ++ (⟨#[42]⟩ : ByteArray)) ++ t523).size ≤ 9223372036854775807 then (impl_puzzleText.l0 k1 (x3_1 ++ ((((⟨#[32]⟩ : ByteArray) ++ t522) ++ (⟨#[42]⟩ : ByteArray)) ++ t523)) l0_1 (l0_1.length : Int) (wrap64 (x13_1 + 1))) else (none)) else (none))) else (none)) else (none))) else ((strconv_FormatInt_63.f ((rd_T50 l0_1 x13_1).f1) 10).bind fun t524 => (if 1 + t524.size ≤ 9223372036854775807 then (if ((⟨#[32]⟩ : ByteArray) ++ t524).size + 1 ≤ 9223372036854775807 then ((impl_shapeText.f k1 ((rd_T50 l0_1 x13_1).f0)).bind fun t525 => (if (((⟨#[32]⟩ : ByteArray) ++ t524) ++ (⟨#[43]⟩ : ByteArray)).size + t525.size ≤ 9223372036854775807 then (if x3_1.size + ((((⟨#[32]⟩ : ByteArray) ++ t524) ++ (⟨#[43]⟩ : ByteArray)) ++ t525).size ≤ 9223372036854775807 then (impl_puzzleText.l0 k1 (x3_1 ++ ((((⟨#[32]⟩ : ByteArray) ++ t524) ++ (⟨#[43]⟩ : ByteArray)) ++ t525)) l0_1 (l0_1.length : Int) (wrap64 (x13_1 + 1))) else (none)) else (none))) else (none)) else (none)))) = some r := by rw [← hbq10] at H; exact H
   have Nbq10 := aM hbq10
   clear hbq10
   by_cases c11 : bq10 = true
   ·subst c11
    have H1 : ((strconv_FormatInt_63.f ((rd_T50 l0_1 x13_1).f1) 10).bind fun t522 => (if 1 + t522.size ≤ 9223372036854775807 then (if ((⟨#[32]⟩ : ByteArray) ++ t522).size + 1 ≤ 9223372036854775807 then ((impl_shapeText.f k1 ((rd_T50 l0_1 x13_1).f0)).bind fun t523 => (if (((⟨#[32]⟩ : ByteArray) ++ t522) ++ (⟨#[42]⟩ : ByteArray)).size + t523.size ≤ 9223372036854775807 then (if x3_1.size + ((((⟨#[32]⟩ : ByteArray) ++ t522) ++ (⟨#[42]⟩ : ByteArray)) ++ t523).size ≤ 9223372036854775807 then (impl_puzzleText.l0 k1 (x3_1 ++ ((((⟨#[32]⟩ : ByteArray) ++ t522) ++ (⟨#[42]⟩ : ByteArray)) ++ t523)) l0_1 (l0_1.length : Int) (wrap64 (x13_1 + 1))) else (none)) else (none))) else (none)) else (none))) = some r := by rw [if_pos rfl] at H; exact H
    clear H
    have H := H1
    clear H1
    replace H := Option.bind_eq_some_iff.mp H
    obtain ⟨t522, A120, H⟩ := H
    replace H : (if 1 + t522.size ≤ 9223372036854775807 then (if ((⟨#[32]⟩ : ByteArray) ++ t522).size + 1 ≤ 9223372036854775807 then ((impl_shapeText.f k1 ((rd_T50 l0_1 x13_1).f0)).bind fun t523 => (if (((⟨#[32]⟩ : ByteArray) ++ t522) ++ (⟨#[42]⟩ : ByteArray)).size + t523.size ≤ 9223372036854775807 then (if x3_1.size + ((((⟨#[32]⟩ : ByteArray) ++ t522) ++ (⟨#[42]⟩ : ByteArray)) ++ t523).size ≤ 9223372036854775807 then (impl_puzzleText.l0 k1 (x3_1 ++ ((((⟨#[32]⟩ : ByteArray) ++ t522) ++ (⟨#[42]⟩ : ByteArray)) ++ t523)) l0_1 (l0_1.length : Int) (wrap64 (x13_1 + 1))) else (none)) else (none))) else (none)) else (none)) = some r := H
    have A12 := aM A120
    clear A120
    by_cases c13 : 1 + t522.size ≤ 9223372036854775807
    rotate_left
    ·rw [if_neg c13] at H
     exact absurd H (by simp)
    rw [if_pos c13] at H
    have c13b0 := eq_true c13
    have c13b1 : decide (1 + t522.size ≤ 9223372036854775807) = true := decide_eq_true c13
    try have c13b2 : (9223372036854775807 < 1 + t522.size) = False := eq_false (Nat.not_lt.2 c13)
    by_cases c14 : ((⟨#[32]⟩ : ByteArray) ++ t522).size + 1 ≤ 9223372036854775807
    rotate_left
    ·rw [if_neg c14] at H
     exact absurd H (by simp)
    rw [if_pos c14] at H
    have c14b0 := eq_true c14
    have c14b1 : decide (((⟨#[32]⟩ : ByteArray) ++ t522).size + 1 ≤ 9223372036854775807) = true := decide_eq_true c14
    try have c14b2 : (9223372036854775807 < ((⟨#[32]⟩ : ByteArray) ++ t522).size + 1) = False := eq_false (Nat.not_lt.2 c14)
    try have c14b3 := c14b2
    try simp only [ByteArray.size_append, show (⟨#[32]⟩ : ByteArray).size = 1 from rfl, show (⟨#[42]⟩ : ByteArray).size = 1 from rfl, show (⟨#[43]⟩ : ByteArray).size = 1 from rfl] at c14b3
    replace H := Option.bind_eq_some_iff.mp H
    obtain ⟨t523, A150, H⟩ := H
    replace H : (if (((⟨#[32]⟩ : ByteArray) ++ t522) ++ (⟨#[42]⟩ : ByteArray)).size + t523.size ≤ 9223372036854775807 then (if x3_1.size + ((((⟨#[32]⟩ : ByteArray) ++ t522) ++ (⟨#[42]⟩ : ByteArray)) ++ t523).size ≤ 9223372036854775807 then (impl_puzzleText.l0 k1 (x3_1 ++ ((((⟨#[32]⟩ : ByteArray) ++ t522) ++ (⟨#[42]⟩ : ByteArray)) ++ t523)) l0_1 (l0_1.length : Int) (wrap64 (x13_1 + 1))) else (none)) else (none)) = some r := H
    have A15 := aM A150
    clear A150
    by_cases c16 : (((⟨#[32]⟩ : ByteArray) ++ t522) ++ (⟨#[42]⟩ : ByteArray)).size + t523.size ≤ 9223372036854775807
    rotate_left
    ·rw [if_neg c16] at H
     exact absurd H (by simp)
    rw [if_pos c16] at H
    have c16b0 := eq_true c16
    have c16b1 : decide ((((⟨#[32]⟩ : ByteArray) ++ t522) ++ (⟨#[42]⟩ : ByteArray)).size + t523.size ≤ 9223372036854775807) = true := decide_eq_true c16
    try have c16b2 : (9223372036854775807 < (((⟨#[32]⟩ : ByteArray) ++ t522) ++ (⟨#[42]⟩ : ByteArray)).size + t523.size) = False := eq_false (Nat.not_lt.2 c16)
    try have c16b3 := c16b2
    try simp only [ByteArray.size_append, show (⟨#[32]⟩ : ByteArray).size = 1 from rfl, show (⟨#[42]⟩ : ByteArray).size = 1 from rfl, show (⟨#[43]⟩ : ByteArray).size = 1 from rfl] at c16b3
    by_cases c17 : x3_1.size + ((((⟨#[32]⟩ : ByteArray) ++ t522) ++ (⟨#[42]⟩ : ByteArray)) ++ t523).size ≤ 9223372036854775807
    rotate_left
    ·rw [if_neg c17] at H
     exact absurd H (by simp)
    rw [if_pos c17] at H
    have c17b0 := eq_true c17
    have c17b1 : decide (x3_1.size + ((((⟨#[32]⟩ : ByteArray) ++ t522) ++ (⟨#[42]⟩ : ByteArray)) ++ t523).size ≤ 9223372036854775807) = true := decide_eq_true c17
    try have c17b2 : (9223372036854775807 < x3_1.size + ((((⟨#[32]⟩ : ByteArray) ++ t522) ++ (⟨#[42]⟩ : ByteArray)) ++ t523).size) = False := eq_false (Nat.not_lt.2 c17)
    try have c17b3 := c17b2
    try simp only [ByteArray.size_append, show (⟨#[32]⟩ : ByteArray).size = 1 from rfl, show (⟨#[42]⟩ : ByteArray).size = 1 from rfl, show (⟨#[43]⟩ : ByteArray).size = 1 from rfl] at c17b3
    have H' := aM H
    clear H
    have p520 : 0 ≤ (x13_1 : Int) := of_decide_eq_true za
    have q520 : x13_1 < (l0_1.length : Int) := of_decide_eq_true za
    obtain ⟨ad520, A520_0, c520_0, e520, hx520_0, hx520_1, hx520_2, hl520_0, hi520_0⟩ := at_T50 HR0_1.out x13_1 p520 q520
    (try rw [← Nbq10.out] at hx520_2); (try rw [← Nbq10.out] at hw520_2)
    cases e520
    replace hx520_0 := zk HB.out hx520_0
    replace hx520_1 := zk HB.out hx520_1
    replace hx520_2 := zk HB.out hx520_2
    have HR520_0 := aM hi520_0
    have HC520_0 := aM hl520_0
    clear hi520_0 hl520_0
    replace p520 := eq_true p520
    replace q520 := eq_true q520
    try go_wp2_with (first | ((with_reducible refine gate_dst (N := 5) rfl ?_); refine zx 5 #[.slice none 0 0, .int .i64 0, .bool false] 50 ?_; intro gb521 hg w18 hbox hb; have _ := aM (blk_below (g := gb518) (o := .cells #[.slice A0_0 l0_0.length c0_0, .slice (some ad520) l0_1.length c0_1] 31 (0, 0)) (mB_ BK518.out) hb); have _ := aM (below_step (zs GE518.out) hb); have _ := aM (hbox); have _ := aM ((zf GE518.out : w.heap.size ≤ gb521)); have _ := aM ((zf GE518.out : w.heap.size ≤ gb521)); have _ := aM ((zl BK518.out : gb518 ≠ gb521)); have _ := aM ((zn BK518.out : gb521 ≠ gb518)); clear BK518 HB; rename_i BK518 HB BK521 GW521 GE521 NB518_521 NB521_518; clear hb hbox hg; have hnb19 := NB521_518.out; have hnc19 := NB518_521.out; obtain ⟨hcz20_0, hcz20_1, hcz20_2, hfz20_0, hfz20_1, hfz20_2⟩ := zQ3 BK521.out))
    have n0_ : Aside0 ((((w18.setCell ⟨gb521, 0, none⟩ (.slice A520_0 ((rd_T50 l0_1 x13_1).f0).length c520_0)).setCell ⟨gb521, 1, none⟩ (.int .i64 ((rd_T50 l0_1 x13_1).f1))).setCell ⟨gb521, 2, none⟩ (.bool true)).heap[gb518]? = some (.cells #[.slice A0_0 l0_0.length c0_0, .slice (some ad520) l0_1.length c0_1] 31 (0, 0))) := ⟨by (with_reducible repeat (first | refine blk_drewN ?_ _ | refine blk_drew ?_ | refine blk_alloc ?_ _)); refine blk_far ?_ NB518_521.out _; (with_reducible repeat (first | refine blk_drewN ?_ _ | refine blk_drew ?_ | refine blk_alloc ?_ _)); refine blk_far ?_ NB518_521.out _; (with_reducible repeat (first | refine blk_drewN ?_ _ | refine blk_drew ?_ | refine blk_alloc ?_ _)); refine blk_far ?_ NB518_521.out _; (with_reducible repeat (first | refine blk_drewN ?_ _ | refine blk_drew ?_ | refine blk_alloc ?_ _)); exact BK518.out⟩
    have n1_ : Aside0 ((((w18.setCell ⟨gb521, 0, none⟩ (.slice A520_0 ((rd_T50 l0_1 x13_1).f0).length c520_0)).setCell ⟨gb521, 1, none⟩ (.int .i64 ((rd_T50 l0_1 x13_1).f1))).setCell ⟨gb521, 2, none⟩ (.bool true)).heap[gb521]? = some (.cells #[.slice A520_0 ((rd_T50 l0_1 x13_1).f0).length c520_0, .int .i64 ((rd_T50 l0_1 x13_1).f1), .bool true] 50 (0, 0))) := ⟨by (with_reducible repeat (first | refine blk_drewN ?_ _ | refine blk_drew ?_ | refine blk_alloc ?_ _)); refine blk_put (cs := #[.slice A520_0 ((rd_T50 l0_1 x13_1).f0).length c520_0, .int .i64 ((rd_T50 l0_1 x13_1).f1), .bool false]) ?_ 2 _ rfl; (with_reducible repeat (first | refine blk_drewN ?_ _ | refine blk_drew ?_ | refine blk_alloc ?_ _)); refine blk_put (cs := #[.slice A520_0 ((rd_T50 l0_1 x13_1).f0).length c520_0, .int .i64 0, .bool false]) ?_ 1 _ rfl; (with_reducible repeat (first | refine blk_drewN ?_ _ | refine blk_drew ?_ | refine blk_alloc ?_ _)); refine blk_put (cs := #[.slice none 0 0, .int .i64 0, .bool false]) ?_ 0 _ rfl; (with_reducible repeat (first | refine blk_drewN ?_ _ | refine blk_drew ?_ | refine blk_alloc ?_ _)); exact BK521.out⟩
    have n2_ : Aside0 (Below w.heap.size w (((w18.setCell ⟨gb521, 0, none⟩ (.slice A520_0 ((rd_T50 l0_1 x13_1).f0).length c520_0)).setCell ⟨gb521, 1, none⟩ (.int .i64 ((rd_T50 l0_1 x13_1).f1))).setCell ⟨gb521, 2, none⟩ (.bool true))) := ⟨zt GE518.out GE521.out⟩
    (try clear BK518)
    (try clear BK521)
    (try clear HB)
    generalize (((w18.setCell ⟨gb521, 0, none⟩ (.slice A520_0 ((rd_T50 l0_1 x13_1).f0).length c520_0)).setCell ⟨gb521, 1, none⟩ (.int .i64 ((rd_T50 l0_1 x13_1).f1))).setCell ⟨gb521, 2, none⟩ (.bool true)) = w21 at n0_ n1_ n2_ ⊢
    have BK518 := n0_
    have BK521 := n1_
    have HB := n2_
    clear n0_ n1_ n2_
    have _ := aM (blk_drew BK518.out)
    have _ := aM (blk_drew BK521.out)
    have _ := aM (below_drew1 HB.out)
    clear BK518
    clear BK521
    clear HB
    rename_i BK518 BK521 HB
    refine start_ (n := 13) (S := fun w' => w'.cell? ⟨gb521, 0, none⟩ = some (.slice A520_0 ((rd_T50 l0_1 x13_1).f0).length c520_0) ∧ w'.cell? ⟨gb521, 1, none⟩ = some (.int .i64 ((rd_T50 l0_1 x13_1).f1)) ∧ w'.cell? ⟨gb521, 2, none⟩ = some (.bool true)) (ds := []) zA133 (by kernel_rfl) rfl rfl ⟨(blk_cell BK521.out 0).trans rfl, (blk_cell BK521.out 1).trans rfl, (blk_cell BK521.out 2).trans rfl⟩ (fun hHeld => ?_); refine with_tabW impl_puzzleText.tab8 impl_puzzleText.bits8 (fun HT_ HW_ => ?_)
    generalize w21.drew = w22 at BK518 BK521 HB hHeld ⊢
    refine zP 0 (some 19) zA134 ?_
    refine zP 1 (some 20) zA135 ?_
    refine zP 5 (some 24) zA136 ?_
    refine zP 7 (some 26) zA137 ?_
    refine zU3 2 (some 21) zA138 hHeld ?_
    refine zU3 8 (some 27) zA139 hHeld ?_
    refine one_ (i := 3) (N := some 22) zA140 rfl rfl (one_of HT_.out (by kernel_rfl)) (by decide) (fun K hK => ?_)
    refine goes_ Tryz.func63 (by kernel_rfl) rfl #[.int .i64 ((rd_T50 l0_1 x13_1).f1), .int .i64 10] (by rfl) rfl rfl zm ?_
    with_reducible refine (strconv_FormatInt_63.calls ((rd_T50 l0_1 x13_1).f1) 10 t522 _ A12.out).mono ?_
    rintro e w' ⟨rfl, ⟨nd, rfl⟩⟩
    refine ⟨_, rfl, ?_⟩
    refine hK.out _ _ ⟨(blk_cell BK521.out 0).trans rfl, (blk_cell BK521.out 1).trans rfl, (blk_cell BK521.out 2).trans rfl⟩ (fun hHeld => ?_)
    clear hK K
    refine norm_ (a' := ?_) ?_ ?_
    rotate_left
    ·show Act.put _ (some 22) _ = _
     simp only [Act.put, xA, xB, xC, i64_w, i32_w]
     rfl
    refine zP 4 (some 23) zA141 ?_
    refine zP 6 (some 25) zA142 ?_
    refine one_ (i := 9) (N := some 28) zA143 rfl rfl (one_of HT_.out (by kernel_rfl)) (by decide) (fun K hK => ?_)
    refine goes_ Tryz.func62 (by kernel_rfl) rfl #[.slice A520_0 ((rd_T50 l0_1 x13_1).f0).length c520_0] (by rfl) rfl rfl zm ?_
    with_reducible refine (impl_shapeText.calls k1 _ _ ((rd_T50 l0_1 x13_1).f0) t523 _ ?side1 ?side2 A15.out).mono ?_
    (case side1 => repeat (first | exact (Kd.C_below HR520_0.out (zt GE518.out GE521.out)) | (with_reducible refine Kd.C_alloc ?_ _) | (with_reducible refine Kd.C_drewN ?_ _) | (with_reducible refine Kd.C_drew ?_)))
    (case side2 => exact HC520_0.out)
    rintro e w23 ⟨rfl, hb⟩
    refine ⟨_, rfl, ?_⟩
    have _ := aM (blk_below (g := gb518) (o := .cells #[.slice A0_0 l0_0.length c0_0, .slice (some ad520) l0_1.length c0_1] 31 (0, 0)) (mB_ BK518.out) hb)
    have _ := aM (blk_below (g := gb521) (o := .cells #[.slice A520_0 ((rd_T50 l0_1 x13_1).f0).length c520_0, .int .i64 ((rd_T50 l0_1 x13_1).f1), .bool true] 50 (0, 0)) (mB_ BK521.out) hb)
    have _ := aM (below_step (zt GE518.out GE521.out) hb)
    clear BK518
    clear BK521
    clear HB
    rename_i BK518 BK521 HB
    (try clear hb)
    (try clear hb2)
    (try clear hk)
    (try clear hi)
    refine hK.out _ _ ⟨(blk_cell BK521.out 0).trans rfl, (blk_cell BK521.out 1).trans rfl, (blk_cell BK521.out 2).trans rfl⟩ (fun hHeld => ?_)
    clear hK K
    refine norm_ (a' := ?_) ?_ ?_
    rotate_left
    ·show Act.put _ (some 28) _ = _
     simp only [Act.put, xA, xB, xC, i64_w, i32_w]
     rfl
    refine zP 10 (some 29) zA144 ?_
    refine zP 11 (some 30) zA145 ?_
    refine zP 12 (some 3) zA146 ?_
    refine done_ (done_of HT_.out (by kernel_rfl)) ?_
    try go_wp2
    go_roundg k1
    case measure => have := HK1.out; omega
    case rel => exact ⟨(x3_1 ++ ((((⟨#[32]⟩ : ByteArray) ++ t522) ++ (⟨#[42]⟩ : ByteArray)) ++ t523)), (wrap64 (x13_1 + 1)), zr, zr, H', ⟨by have := HK1.out; omega⟩, ⟨mB_ BK518.out⟩, ⟨zt GE518.out GE521.out⟩⟩
   replace c11 := Bool.eq_false_iff.mpr c11
   subst c11
   have H1 : ((strconv_FormatInt_63.f ((rd_T50 l0_1 x13_1).f1) 10).bind fun t524 => (if 1 + t524.size ≤ 9223372036854775807 then (if ((⟨#[32]⟩ : ByteArray) ++ t524).size + 1 ≤ 9223372036854775807 then ((impl_shapeText.f k1 ((rd_T50 l0_1 x13_1).f0)).bind fun t525 => (if (((⟨#[32]⟩ : ByteArray) ++ t524) ++ (⟨#[43]⟩ : ByteArray)).size + t525.size ≤ 9223372036854775807 then (if x3_1.size + ((((⟨#[32]⟩ : ByteArray) ++ t524) ++ (⟨#[43]⟩ : ByteArray)) ++ t525).size ≤ 9223372036854775807 then (impl_puzzleText.l0 k1 (x3_1 ++ ((((⟨#[32]⟩ : ByteArray) ++ t524) ++ (⟨#[43]⟩ : ByteArray)) ++ t525)) l0_1 (l0_1.length : Int) (wrap64 (x13_1 + 1))) else (none)) else (none))) else (none)) else (none))) = some r := by rw [if_neg (show ¬ (false = true) by decide)] at H; exact H
   clear H
   have H := H1
   clear H1
   replace H := Option.bind_eq_some_iff.mp H
   obtain ⟨t524, A240, H⟩ := H
   replace H : (if 1 + t524.size ≤ 9223372036854775807 then (if ((⟨#[32]⟩ : ByteArray) ++ t524).size + 1 ≤ 9223372036854775807 then ((impl_shapeText.f k1 ((rd_T50 l0_1 x13_1).f0)).bind fun t525 => (if (((⟨#[32]⟩ : ByteArray) ++ t524) ++ (⟨#[43]⟩ : ByteArray)).size + t525.size ≤ 9223372036854775807 then (if x3_1.size + ((((⟨#[32]⟩ : ByteArray) ++ t524) ++ (⟨#[43]⟩ : ByteArray)) ++ t525).size ≤ 9223372036854775807 then (impl_puzzleText.l0 k1 (x3_1 ++ ((((⟨#[32]⟩ : ByteArray) ++ t524) ++ (⟨#[43]⟩ : ByteArray)) ++ t525)) l0_1 (l0_1.length : Int) (wrap64 (x13_1 + 1))) else (none)) else (none))) else (none)) else (none)) = some r := H
   have A24 := aM A240
   clear A240
   by_cases c25 : 1 + t524.size ≤ 9223372036854775807
   rotate_left
   ·rw [if_neg c25] at H
    exact absurd H (by simp)
   rw [if_pos c25] at H
   have c25b0 := eq_true c25
   have c25b1 : decide (1 + t524.size ≤ 9223372036854775807) = true := decide_eq_true c25
   try have c25b2 : (9223372036854775807 < 1 + t524.size) = False := eq_false (Nat.not_lt.2 c25)
   by_cases c26 : ((⟨#[32]⟩ : ByteArray) ++ t524).size + 1 ≤ 9223372036854775807
   rotate_left
   ·rw [if_neg c26] at H
    exact absurd H (by simp)
   rw [if_pos c26] at H
   have c26b0 := eq_true c26
   have c26b1 : decide (((⟨#[32]⟩ : ByteArray) ++ t524).size + 1 ≤ 9223372036854775807) = true := decide_eq_true c26
   try have c26b2 : (9223372036854775807 < ((⟨#[32]⟩ : ByteArray) ++ t524).size + 1) = False := eq_false (Nat.not_lt.2 c26)
   try have c26b3 := c26b2
   try simp only [ByteArray.size_append, show (⟨#[32]⟩ : ByteArray).size = 1 from rfl, show (⟨#[42]⟩ : ByteArray).size = 1 from rfl, show (⟨#[43]⟩ : ByteArray).size = 1 from rfl] at c26b3
   replace H := Option.bind_eq_some_iff.mp H
   obtain ⟨t525, A270, H⟩ := H
   replace H : (if (((⟨#[32]⟩ : ByteArray) ++ t524) ++ (⟨#[43]⟩ : ByteArray)).size + t525.size ≤ 9223372036854775807 then (if x3_1.size + ((((⟨#[32]⟩ : ByteArray) ++ t524) ++ (⟨#[43]⟩ : ByteArray)) ++ t525).size ≤ 9223372036854775807 then (impl_puzzleText.l0 k1 (x3_1 ++ ((((⟨#[32]⟩ : ByteArray) ++ t524) ++ (⟨#[43]⟩ : ByteArray)) ++ t525)) l0_1 (l0_1.length : Int) (wrap64 (x13_1 + 1))) else (none)) else (none)) = some r := H
   have A27 := aM A270
   clear A270
   by_cases c28 : (((⟨#[32]⟩ : ByteArray) ++ t524) ++ (⟨#[43]⟩ : ByteArray)).size + t525.size ≤ 9223372036854775807
   rotate_left
   ·rw [if_neg c28] at H
    exact absurd H (by simp)
   rw [if_pos c28] at H
   have c28b0 := eq_true c28
   have c28b1 : decide ((((⟨#[32]⟩ : ByteArray) ++ t524) ++ (⟨#[43]⟩ : ByteArray)).size + t525.size ≤ 9223372036854775807) = true := decide_eq_true c28
   try have c28b2 : (9223372036854775807 < (((⟨#[32]⟩ : ByteArray) ++ t524) ++ (⟨#[43]⟩ : ByteArray)).size + t525.size) = False := eq_false (Nat.not_lt.2 c28)
   try have c28b3 := c28b2
   try simp only [ByteArray.size_append, show (⟨#[32]⟩ : ByteArray).size = 1 from rfl, show (⟨#[42]⟩ : ByteArray).size = 1 from rfl, show (⟨#[43]⟩ : ByteArray).size = 1 from rfl] at c28b3
   by_cases c29 : x3_1.size + ((((⟨#[32]⟩ : ByteArray) ++ t524) ++ (⟨#[43]⟩ : ByteArray)) ++ t525).size ≤ 9223372036854775807
   rotate_left
   ·rw [if_neg c29] at H
    exact absurd H (by simp)
   rw [if_pos c29] at H
   have c29b0 := eq_true c29
   have c29b1 : decide (x3_1.size + ((((⟨#[32]⟩ : ByteArray) ++ t524) ++ (⟨#[43]⟩ : ByteArray)) ++ t525).size ≤ 9223372036854775807) = true := decide_eq_true c29
   try have c29b2 : (9223372036854775807 < x3_1.size + ((((⟨#[32]⟩ : ByteArray) ++ t524) ++ (⟨#[43]⟩ : ByteArray)) ++ t525).size) = False := eq_false (Nat.not_lt.2 c29)
   try have c29b3 := c29b2
   try simp only [ByteArray.size_append, show (⟨#[32]⟩ : ByteArray).size = 1 from rfl, show (⟨#[42]⟩ : ByteArray).size = 1 from rfl, show (⟨#[43]⟩ : ByteArray).size = 1 from rfl] at c29b3
   have H' := aM H
   clear H
   have p520 : 0 ≤ (x13_1 : Int) := of_decide_eq_true za
   have q520 : x13_1 < (l0_1.length : Int) := of_decide_eq_true za
   obtain ⟨ad520, A520_0, c520_0, e520, hx520_0, hx520_1, hx520_2, hl520_0, hi520_0⟩ := at_T50 HR0_1.out x13_1 p520 q520
   (try rw [← Nbq10.out] at hx520_2); (try rw [← Nbq10.out] at hw520_2)
   cases e520
   replace hx520_0 := zk HB.out hx520_0
   replace hx520_1 := zk HB.out hx520_1
   replace hx520_2 := zk HB.out hx520_2
   have HR520_0 := aM hi520_0
   have HC520_0 := aM hl520_0
   clear hi520_0 hl520_0
   replace p520 := eq_true p520
   replace q520 := eq_true q520
   try go_wp2_with (first | ((with_reducible refine gate_dst (N := 5) rfl ?_); refine zx 5 #[.slice none 0 0, .int .i64 0, .bool false] 50 ?_; intro gb521 hg w30 hbox hb; have _ := aM (blk_below (g := gb518) (o := .cells #[.slice A0_0 l0_0.length c0_0, .slice (some ad520) l0_1.length c0_1] 31 (0, 0)) (mB_ BK518.out) hb); have _ := aM (below_step (zs GE518.out) hb); have _ := aM (hbox); have _ := aM ((zf GE518.out : w.heap.size ≤ gb521)); have _ := aM ((zf GE518.out : w.heap.size ≤ gb521)); have _ := aM ((zl BK518.out : gb518 ≠ gb521)); have _ := aM ((zn BK518.out : gb521 ≠ gb518)); clear BK518 HB; rename_i BK518 HB BK521 GW521 GE521 NB518_521 NB521_518; clear hb hbox hg; have hnb31 := NB521_518.out; have hnc31 := NB518_521.out; obtain ⟨hcz32_0, hcz32_1, hcz32_2, hfz32_0, hfz32_1, hfz32_2⟩ := zQ3 BK521.out))
   have n0_ : Aside0 ((((w30.setCell ⟨gb521, 0, none⟩ (.slice A520_0 ((rd_T50 l0_1 x13_1).f0).length c520_0)).setCell ⟨gb521, 1, none⟩ (.int .i64 ((rd_T50 l0_1 x13_1).f1))).setCell ⟨gb521, 2, none⟩ (.bool false)).heap[gb518]? = some (.cells #[.slice A0_0 l0_0.length c0_0, .slice (some ad520) l0_1.length c0_1] 31 (0, 0))) := ⟨by (with_reducible repeat (first | refine blk_drewN ?_ _ | refine blk_drew ?_ | refine blk_alloc ?_ _)); refine blk_far ?_ NB518_521.out _; (with_reducible repeat (first | refine blk_drewN ?_ _ | refine blk_drew ?_ | refine blk_alloc ?_ _)); refine blk_far ?_ NB518_521.out _; (with_reducible repeat (first | refine blk_drewN ?_ _ | refine blk_drew ?_ | refine blk_alloc ?_ _)); refine blk_far ?_ NB518_521.out _; (with_reducible repeat (first | refine blk_drewN ?_ _ | refine blk_drew ?_ | refine blk_alloc ?_ _)); exact BK518.out⟩
   have n1_ : Aside0 ((((w30.setCell ⟨gb521, 0, none⟩ (.slice A520_0 ((rd_T50 l0_1 x13_1).f0).length c520_0)).setCell ⟨gb521, 1, none⟩ (.int .i64 ((rd_T50 l0_1 x13_1).f1))).setCell ⟨gb521, 2, none⟩ (.bool false)).heap[gb521]? = some (.cells #[.slice A520_0 ((rd_T50 l0_1 x13_1).f0).length c520_0, .int .i64 ((rd_T50 l0_1 x13_1).f1), .bool false] 50 (0, 0))) := ⟨by (with_reducible repeat (first | refine blk_drewN ?_ _ | refine blk_drew ?_ | refine blk_alloc ?_ _)); refine blk_put (cs := #[.slice A520_0 ((rd_T50 l0_1 x13_1).f0).length c520_0, .int .i64 ((rd_T50 l0_1 x13_1).f1), .bool false]) ?_ 2 _ rfl; (with_reducible repeat (first | refine blk_drewN ?_ _ | refine blk_drew ?_ | refine blk_alloc ?_ _)); refine blk_put (cs := #[.slice A520_0 ((rd_T50 l0_1 x13_1).f0).length c520_0, .int .i64 0, .bool false]) ?_ 1 _ rfl; (with_reducible repeat (first | refine blk_drewN ?_ _ | refine blk_drew ?_ | refine blk_alloc ?_ _)); refine blk_put (cs := #[.slice none 0 0, .int .i64 0, .bool false]) ?_ 0 _ rfl; (with_reducible repeat (first | refine blk_drewN ?_ _ | refine blk_drew ?_ | refine blk_alloc ?_ _)); exact BK521.out⟩
   have n2_ : Aside0 (Below w.heap.size w (((w30.setCell ⟨gb521, 0, none⟩ (.slice A520_0 ((rd_T50 l0_1 x13_1).f0).length c520_0)).setCell ⟨gb521, 1, none⟩ (.int .i64 ((rd_T50 l0_1 x13_1).f1))).setCell ⟨gb521, 2, none⟩ (.bool false))) := ⟨zt GE518.out GE521.out⟩
   (try clear BK518)
   (try clear BK521)
   (try clear HB)
   generalize (((w30.setCell ⟨gb521, 0, none⟩ (.slice A520_0 ((rd_T50 l0_1 x13_1).f0).length c520_0)).setCell ⟨gb521, 1, none⟩ (.int .i64 ((rd_T50 l0_1 x13_1).f1))).setCell ⟨gb521, 2, none⟩ (.bool false)) = w33 at n0_ n1_ n2_ ⊢
   have BK518 := n0_
   have BK521 := n1_
   have HB := n2_
   clear n0_ n1_ n2_
   have _ := aM (blk_drew BK518.out)
   have _ := aM (blk_drew BK521.out)
   have _ := aM (below_drew1 HB.out)
   clear BK518
   clear BK521
   clear HB
   rename_i BK518 BK521 HB
   refine start_ (n := 13) (S := fun w' => w'.cell? ⟨gb521, 0, none⟩ = some (.slice A520_0 ((rd_T50 l0_1 x13_1).f0).length c520_0) ∧ w'.cell? ⟨gb521, 1, none⟩ = some (.int .i64 ((rd_T50 l0_1 x13_1).f1)) ∧ w'.cell? ⟨gb521, 2, none⟩ = some (.bool false)) (ds := []) zA133 (by kernel_rfl) rfl rfl ⟨(blk_cell BK521.out 0).trans rfl, (blk_cell BK521.out 1).trans rfl, (blk_cell BK521.out 2).trans rfl⟩ (fun hHeld => ?_); refine with_tabW impl_puzzleText.tab8 impl_puzzleText.bits8 (fun HT_ HW_ => ?_)
   generalize w33.drew = w34 at BK518 BK521 HB hHeld ⊢
   refine zP 0 (some 19) zA134 ?_
   refine zP 1 (some 20) zA135 ?_
   refine zP 5 (some 24) zA136 ?_
   refine zP 7 (some 26) zA137 ?_
   refine zU3 2 (some 21) zA138 hHeld ?_
   refine zU3 8 (some 27) zA139 hHeld ?_
   refine one_ (i := 3) (N := some 22) zA140 rfl rfl (one_of HT_.out (by kernel_rfl)) (by decide) (fun K hK => ?_)
   refine goes_ Tryz.func63 (by kernel_rfl) rfl #[.int .i64 ((rd_T50 l0_1 x13_1).f1), .int .i64 10] (by rfl) rfl rfl zm ?_
   with_reducible refine (strconv_FormatInt_63.calls ((rd_T50 l0_1 x13_1).f1) 10 t524 _ A24.out).mono ?_
   rintro e w' ⟨rfl, ⟨nd, rfl⟩⟩
   refine ⟨_, rfl, ?_⟩
   refine hK.out _ _ ⟨(blk_cell BK521.out 0).trans rfl, (blk_cell BK521.out 1).trans rfl, (blk_cell BK521.out 2).trans rfl⟩ (fun hHeld => ?_)
   clear hK K
   refine norm_ (a' := ?_) ?_ ?_
   rotate_left
   ·show Act.put _ (some 22) _ = _
    simp only [Act.put, xA, xB, xC, i64_w, i32_w]
    rfl
   refine zP 4 (some 23) zA141 ?_
   refine zP 6 (some 25) zA142 ?_
   refine one_ (i := 9) (N := some 28) zA143 rfl rfl (one_of HT_.out (by kernel_rfl)) (by decide) (fun K hK => ?_)
   refine goes_ Tryz.func62 (by kernel_rfl) rfl #[.slice A520_0 ((rd_T50 l0_1 x13_1).f0).length c520_0] (by rfl) rfl rfl zm ?_
   with_reducible refine (impl_shapeText.calls k1 _ _ ((rd_T50 l0_1 x13_1).f0) t525 _ ?side1 ?side2 A27.out).mono ?_
   (case side1 => repeat (first | exact (Kd.C_below HR520_0.out (zt GE518.out GE521.out)) | (with_reducible refine Kd.C_alloc ?_ _) | (with_reducible refine Kd.C_drewN ?_ _) | (with_reducible refine Kd.C_drew ?_)))
   (case side2 => exact HC520_0.out)
   rintro e w35 ⟨rfl, hb⟩
   refine ⟨_, rfl, ?_⟩
   have _ := aM (blk_below (g := gb518) (o := .cells #[.slice A0_0 l0_0.length c0_0, .slice (some ad520) l0_1.length c0_1] 31 (0, 0)) (mB_ BK518.out) hb)
   have _ := aM (blk_below (g := gb521) (o := .cells #[.slice A520_0 ((rd_T50 l0_1 x13_1).f0).length c520_0, .int .i64 ((rd_T50 l0_1 x13_1).f1), .bool false] 50 (0, 0)) (mB_ BK521.out) hb)
   have _ := aM (below_step (zt GE518.out GE521.out) hb)
   clear BK518
   clear BK521
   clear HB
   rename_i BK518 BK521 HB
   (try clear hb)
   (try clear hb2)
   (try clear hk)
   (try clear hi)
   refine hK.out _ _ ⟨(blk_cell BK521.out 0).trans rfl, (blk_cell BK521.out 1).trans rfl, (blk_cell BK521.out 2).trans rfl⟩ (fun hHeld => ?_)
   clear hK K
   refine norm_ (a' := ?_) ?_ ?_
   rotate_left
   ·show Act.put _ (some 28) _ = _
    simp only [Act.put, xA, xB, xC, i64_w, i32_w]
    rfl
   refine zP 10 (some 29) zA144 ?_
   refine zP 11 (some 30) zA145 ?_
   refine zP 12 (some 3) zA146 ?_
   refine done_ (done_of HT_.out (by kernel_rfl)) ?_
   try go_wp2
   go_roundg k1
   case measure => have := HK1.out; omega
   case rel => exact ⟨(x3_1 ++ ((((⟨#[32]⟩ : ByteArray) ++ t524) ++ (⟨#[43]⟩ : ByteArray)) ++ t525)), (wrap64 (x13_1 + 1)), zr, zr, H', ⟨by have := HK1.out; omega⟩, ⟨mB_ BK518.out⟩, ⟨zt GE518.out GE521.out⟩⟩
def impl_PuzzleText.f (k : Nat) (l0_0 : List (S82)) (l0_1 : List (S50)) : Option (ByteArray) := (impl_IsPuzzle.f k l0_0 l0_1).bind fun t527 => (if t527 = true then ((impl_puzzleText.f k l0_0 l0_1).bind fun t528 => (some t528)) else (some (⟨#[]⟩ : ByteArray)))
theorem impl_PuzzleText.calls (k : Nat) (A0_0 : Option Addr) (c0_0 : Nat) (l0_0 : List (S82)) (A0_1 : Option Addr) (c0_1 : Nat) (l0_1 : List (S50)) (r : ByteArray) (w : World) (hr0_0 : Kd.C k82 w A0_0 l0_0.length l0_0) (hc0_0 : l0_0.length ≤ c0_0) (hr0_1 : Kd.C k50 w A0_1 l0_1.length l0_1) (hc0_1 : l0_1.length ≤ c0_1) (h : impl_PuzzleText.f k l0_0 l0_1 = some r) :
  Calls Tryz.prog 9 #[.agg #[.slice A0_0 l0_0.length c0_0, .slice A0_1 l0_1.length c0_1]] w fun e w' => e = .returned (.string r) ∧ Below w.heap.size w w' := by
 have hu31 := Tryz.underlying31
 have HR0_0 := aM hr0_0
 have HC0_0 := aM hc0_0
 clear hr0_0 hc0_0
 have HR0_1 := aM hr0_1
 have HC0_1 := aM hc0_1
 clear hr0_1 hc0_1
 have HB := aM (Below.refl w.heap.size w)
 have H : ((impl_IsPuzzle.f k l0_0 l0_1).bind fun t527 => (if t527 = true then ((impl_puzzleText.f k l0_0 l0_1).bind fun t528 => (some t528)) else (some (⟨#[]⟩ : ByteArray)))) = some r := h
 clear h
 replace H := Option.bind_eq_some_iff.mp H
 obtain ⟨t527, A20, H⟩ := H
 replace H : (if t527 = true then ((impl_puzzleText.f k l0_0 l0_1).bind fun t528 => (some t528)) else (some (⟨#[]⟩ : ByteArray))) = some r := H
 have A2 := aM A20
 clear A20
 by_cases c3 : t527 = true
 rotate_left
 ·replace c3 := Bool.eq_false_iff.mpr c3
  subst c3
  have H1 : (some (⟨#[]⟩ : ByteArray)) = some r := by rw [if_neg (show ¬ (false = true) by decide)] at H; exact H
  clear H
  have H := H1
  clear H1
  obtain rfl := Option.some.inj H
  go_enter Tryz.func9, Tryz.ntmps9
  go_wp2_with (first | ((with_reducible refine gate_dst (N := 1) rfl ?_); refine zx 1 #[.slice A0_0 l0_0.length c0_0, .slice A0_1 l0_1.length c0_1] 31 ?_; intro gb526 hg w10 hbox hb; have _ := aM (below_step zb hb); have _ := aM (hbox); have _ := aM ((ze : w.heap.size ≤ gb526)); have _ := aM ((ze : w.heap.size ≤ gb526)); clear HB; rename_i HB BK526 GW526 GE526; clear hb hbox hg; obtain ⟨hcz11_0, hcz11_1, hfz11_0, hfz11_1⟩ := zQ2 BK526.out) | ((with_reducible refine gate_callee (f := 21) rfl ?_); refine goesL_ (some 4) rfl rfl Tryz.func21 (by kernel_rfl) rfl #[.agg #[.slice A0_0 l0_0.length c0_0, .slice A0_1 l0_1.length c0_1]] rfl zm ?_; (with_reducible refine (impl_IsPuzzle.calls k _ _ l0_0 _ _ l0_1 false _ ?side1 ?side2 ?side3 ?side4 A2.out).mono ?_); (case side1 => repeat (first | exact (Kd.C_below HR0_0.out HB.out) | (with_reducible refine Kd.C_alloc ?_ _) | (with_reducible refine Kd.C_drewN ?_ _) | (with_reducible refine Kd.C_drew ?_))); (case side2 => exact HC0_0.out); (case side3 => repeat (first | exact (Kd.C_below HR0_1.out HB.out) | (with_reducible refine Kd.C_alloc ?_ _) | (with_reducible refine Kd.C_drewN ?_ _) | (with_reducible refine Kd.C_drew ?_))); (case side4 => exact HC0_1.out); rintro e w12 ⟨rfl, hb⟩; refine ⟨_, rfl, ?_⟩; have _ := aM (blk_below (g := gb526) (o := .cells #[.slice A0_0 l0_0.length c0_0, .slice A0_1 l0_1.length c0_1] 31 (0, 0)) (mB_ BK526.out) hb); have _ := aM (below_step (zs GE526.out) hb); clear BK526 HB; rename_i BK526 HB; (try clear hb); (try clear hb2); (try clear hk); (try clear hi)))
  go_ret
  exact ⟨zw, zs GE526.out⟩
 subst c3
 have H1 : ((impl_puzzleText.f k l0_0 l0_1).bind fun t528 => (some t528)) = some r := by rw [if_pos rfl] at H; exact H
 clear H
 have H := H1
 clear H1
 replace H := Option.bind_eq_some_iff.mp H
 obtain ⟨t528, A40, H⟩ := H
 replace H : (some t528) = some r := H
 have A4 := aM A40
 clear A40
 obtain rfl := Option.some.inj H
 go_enter Tryz.func9, Tryz.ntmps9
 go_wp2_with (first | ((with_reducible refine gate_dst (N := 1) rfl ?_); refine zx 1 #[.slice A0_0 l0_0.length c0_0, .slice A0_1 l0_1.length c0_1] 31 ?_; intro gb526 hg w5 hbox hb; have _ := aM (below_step zb hb); have _ := aM (hbox); have _ := aM ((ze : w.heap.size ≤ gb526)); have _ := aM ((ze : w.heap.size ≤ gb526)); clear HB; rename_i HB BK526 GW526 GE526; clear hb hbox hg; obtain ⟨hcz6_0, hcz6_1, hfz6_0, hfz6_1⟩ := zQ2 BK526.out) | ((with_reducible refine gate_callee (f := 21) rfl ?_); refine goesL_ (some 4) rfl rfl Tryz.func21 (by kernel_rfl) rfl #[.agg #[.slice A0_0 l0_0.length c0_0, .slice A0_1 l0_1.length c0_1]] rfl zm ?_; (with_reducible refine (impl_IsPuzzle.calls k _ _ l0_0 _ _ l0_1 true _ ?side1 ?side2 ?side3 ?side4 A2.out).mono ?_); (case side1 => repeat (first | exact (Kd.C_below HR0_0.out HB.out) | (with_reducible refine Kd.C_alloc ?_ _) | (with_reducible refine Kd.C_drewN ?_ _) | (with_reducible refine Kd.C_drew ?_))); (case side2 => exact HC0_0.out); (case side3 => repeat (first | exact (Kd.C_below HR0_1.out HB.out) | (with_reducible refine Kd.C_alloc ?_ _) | (with_reducible refine Kd.C_drewN ?_ _) | (with_reducible refine Kd.C_drew ?_))); (case side4 => exact HC0_1.out); rintro e w7 ⟨rfl, hb⟩; refine ⟨_, rfl, ?_⟩; have _ := aM (blk_below (g := gb526) (o := .cells #[.slice A0_0 l0_0.length c0_0, .slice A0_1 l0_1.length c0_1] 31 (0, 0)) (mB_ BK526.out) hb); have _ := aM (below_step (zs GE526.out) hb); clear BK526 HB; rename_i BK526 HB; (try clear hb); (try clear hb2); (try clear hk); (try clear hi); obtain ⟨hcz8_0, hcz8_1, hfz8_0, hfz8_1⟩ := zQ2 BK526.out) | ((with_reducible refine gate_callee (f := 30) rfl ?_); refine goesL_ (some 7) rfl rfl Tryz.func30 (by kernel_rfl) rfl #[.agg #[.slice A0_0 l0_0.length c0_0, .slice A0_1 l0_1.length c0_1]] rfl zm ?_; (with_reducible refine (impl_puzzleText.calls k _ _ l0_0 _ _ l0_1 t528 _ ?side1 ?side2 ?side3 ?side4 A4.out).mono ?_); (case side1 => repeat (first | exact (Kd.C_below HR0_0.out HB.out) | (with_reducible refine Kd.C_alloc ?_ _) | (with_reducible refine Kd.C_drewN ?_ _) | (with_reducible refine Kd.C_drew ?_))); (case side2 => exact HC0_0.out); (case side3 => repeat (first | exact (Kd.C_below HR0_1.out HB.out) | (with_reducible refine Kd.C_alloc ?_ _) | (with_reducible refine Kd.C_drewN ?_ _) | (with_reducible refine Kd.C_drew ?_))); (case side4 => exact HC0_1.out); rintro e w9 ⟨rfl, hb⟩; refine ⟨_, rfl, ?_⟩; have _ := aM (blk_below (g := gb526) (o := .cells #[.slice A0_0 l0_0.length c0_0, .slice A0_1 l0_1.length c0_1] 31 (0, 0)) (mB_ BK526.out) hb); have _ := aM (below_step (zs GE526.out) hb); clear BK526 HB; rename_i BK526 HB; (try clear hb); (try clear hb2); (try clear hk); (try clear hi)))
 go_ret
 exact ⟨zw, zs GE526.out⟩
def laws_eqCell.f (a0_0 : Int) (a0_1 : Int) (a1_0 : Int) (a1_1 : Int) : Option (Bool) := if a0_0 = a1_0 then (if a0_1 = a1_1 then (some true) else (some false)) else (some false)
theorem laws_eqCell.calls (a0_0 : Int) (a0_1 : Int) (a1_0 : Int) (a1_1 : Int) (r : Bool) (w : World) (h : laws_eqCell.f a0_0 a0_1 a1_0 a1_1 = some r) (hr_ : r = true := by rfl) :
  Calls Tryz.prog 64 #[.agg #[.int .i64 a0_0, .int .i64 a0_1], .agg #[.int .i64 a1_0, .int .i64 a1_1]] w fun e w' => e = .returned (.bool r) ∧ Below w.heap.size w w' := by
 subst hr_
 have hu82 := Tryz.underlying82
 have HB := aM (Below.refl w.heap.size w)
 have H : (if a0_0 = a1_0 then (if a0_1 = a1_1 then (some true) else (some false)) else (some false)) = some true := h
 clear h
 by_cases c3 : a0_0 = a1_0
 rotate_left
 ·rw [if_neg c3] at H
  cases H
 rw [if_pos c3] at H
 have c3b0 : (a0_0 == a1_0) = true := beq_iff_eq.mpr c3
 have c3b1 : (a0_0 != a1_0) = false := bne_eq_false_iff_eq.mpr c3
 clear c3
 by_cases c4 : a0_1 = a1_1
 rotate_left
 ·rw [if_neg c4] at H
  cases H
 rw [if_pos c4] at H
 have c4b0 : (a0_1 == a1_1) = true := beq_iff_eq.mpr c4
 have c4b1 : (a0_1 != a1_1) = false := bne_eq_false_iff_eq.mpr c4
 clear c4
 first | obtain rfl := Option.some.inj H | clear H
 go_enter Tryz.func64, Tryz.ntmps64
 go_wp2_with (first | ((with_reducible refine gate_dst (N := 2) rfl ?_); refine zx 2 #[.int .i64 a0_0, .int .i64 a0_1] 82 ?_; intro gb529 hg w5 hbox hb; have _ := aM (below_step zb hb); have _ := aM (hbox); have _ := aM ((ze : w.heap.size ≤ gb529)); have _ := aM ((ze : w.heap.size ≤ gb529)); clear HB; rename_i HB BK529 GW529 GE529; clear hb hbox hg) | ((with_reducible refine gate_dst (N := 3) rfl ?_); refine zx 3 #[.int .i64 a1_0, .int .i64 a1_1] 82 ?_; intro gb530 hg w6 hbox hb; have _ := aM (blk_below (g := gb529) (o := .cells #[.int .i64 a0_0, .int .i64 a0_1] 82 (0, 0)) (mB_ BK529.out) hb); have _ := aM (below_step (zs GE529.out) hb); have _ := aM (hbox); have _ := aM ((zf GE529.out : w.heap.size ≤ gb530)); have _ := aM ((zf GE529.out : w.heap.size ≤ gb530)); have _ := aM ((zl BK529.out : gb529 ≠ gb530)); have _ := aM ((zn BK529.out : gb530 ≠ gb529)); clear BK529 HB; rename_i BK529 HB BK530 GW530 GE530 NB529_530 NB530_529; clear hb hbox hg; have hnb7 := NB529_530.out; have hnc7 := NB530_529.out; obtain ⟨hcz8_0, hcz8_1, hfz8_0, hfz8_1⟩ := zQ2 BK529.out; obtain ⟨hcz9_0, hcz9_1, hfz9_0, hfz9_1⟩ := zQ2 BK530.out))
 go_ret
 exact ⟨zw, zt GE529.out GE530.out⟩
def laws_eqCellS.l0 : Nat → List (S82) → List (S82) → Int → Option (Bool)
 | 0, _, _, _ => none
 | k + 1, x0, x1, x5 => if x5 < (x0.length : Int) then (if 0 ≤ x5 then (if x5 < (x1.length : Int) then ((laws_eqCell.f ((rd_T82 x0 x5).f0) ((rd_T82 x0 x5).f1) ((rd_T82 x1 x5).f0) ((rd_T82 x1 x5).f1)).bind fun t533 => (if t533 = true then (laws_eqCellS.l0 k x0 x1 (wrap64 (x5 + 1))) else (some false))) else (none)) else (none)) else (some true)
def laws_eqCellS.f (k : Nat) (l0 : List (S82)) (l1 : List (S82)) : Option (Bool) := if (l0.length : Int) = (l1.length : Int) then (laws_eqCellS.l0 k l0 l1 0) else (some false)
def laws_eqCellS.T6 : Bool × List (List Nat × List Nat) := (true, [([], []), ([], []), ([0, 1], [0, 1]), ([2], [2]), ([], []), ([], []), ([4, 5], [4, 5]), ([6], [6]), ([3, 7], [3, 7]), ([8], [8])])
def laws_eqCellS.B6 : List Nat := [0, 0, 3, 7, 0, 0, 48, 112, 255, 511]
theorem laws_eqCellS.tab6 : rtab .any (opsOf Tryz.f31 6) = laws_eqCellS.T6 := by kernel_rfl
theorem laws_eqCellS.bits6 : waitsOk laws_eqCellS.T6.2 laws_eqCellS.B6 = true := by kernel_rfl
theorem laws_eqCellS.calls (k : Nat) (A0 : Option Addr) (c0 : Nat) (l0 : List (S82)) (A1 : Option Addr) (c1 : Nat) (l1 : List (S82)) (r : Bool) (w : World) (hr0 : Kd.C k82 w A0 l0.length l0) (hc0 : l0.length ≤ c0) (hr1 : Kd.C k82 w A1 l1.length l1) (hc1 : l1.length ≤ c1) (h : laws_eqCellS.f k l0 l1 = some r) (hr_ : r = true := by rfl) :
  Calls Tryz.prog 31 #[.slice A0 l0.length c0, .slice A1 l1.length c1] w fun e w' => e = .returned (.bool r) ∧ Below w.heap.size w w' := by
 subst hr_
 have hu82 := Tryz.underlying82
 have HR0 := aM hr0
 have HC0 := aM hc0
 clear hr0 hc0
 have HR1 := aM hr1
 have HC1 := aM hc1
 clear hr1 hc1
 have HB := aM (Below.refl w.heap.size w)
 have H : (if (l0.length : Int) = (l1.length : Int) then (laws_eqCellS.l0 k l0 l1 0) else (some false)) = some true := h
 clear h
 by_cases c3 : (l0.length : Int) = (l1.length : Int)
 rotate_left
 ·rw [if_neg c3] at H
  cases H
 rw [if_pos c3] at H
 have c3b0 : ((l0.length : Int) == (l1.length : Int)) = true := beq_iff_eq.mpr c3
 have c3b1 : ((l0.length : Int) != (l1.length : Int)) = false := bne_eq_false_iff_eq.mpr c3
 have c3b2 : (l0.length == l1.length) = true := by first | simpa using c3 | (simp at c3 ⊢; omega)
 clear c3
 have H' := aM H
 clear H
 go_enter Tryz.func31, Tryz.ntmps31
 go_wp2
 go_loopg [5] k (fun kq v5 w' => ∃ (x5_1 : Int), v5 = .int .i64 x5_1 ∧ Aside0 (laws_eqCellS.l0 kq l0 l1 x5_1 = some true) ∧ Aside0 (kq ≤ k) ∧ Aside0 (Below w.heap.size w w'))
 case atStart => exact ⟨(0), zr, H', ⟨Nat.le_refl _⟩, ⟨zb⟩⟩
 case round =>
  clear H'
  try clear c1
  try clear p2
  try clear c3
  try clear c3b0
  try clear c3b1
  try clear c3b2
  obtain ⟨x5_1, rfl, HA, HK1, HB⟩ := hrel
  cases gk with
  | zero => exact absurd HA.out (by simp [laws_eqCellS.l0])
  | succ k1 =>
   have H := HA.out
   clear HA
   simp only [laws_eqCellS.l0] at H
   by_cases c4 : x5_1 < (l0.length : Int)
   rotate_left
   ·rw [if_neg c4] at H
    have c4b0 : decide (x5_1 < (l0.length : Int)) = false := decide_eq_false c4
    clear c4
    first | obtain rfl := Option.some.inj H | clear H
    go_wp2
    go_ret
    exact ⟨zw, zb⟩
   rw [if_pos c4] at H
   have c4b0 : decide (x5_1 < (l0.length : Int)) = true := decide_eq_true c4
   clear c4
   by_cases c5 : 0 ≤ x5_1
   rotate_left
   ·rw [if_neg c5] at H
    exact absurd H (by simp)
   rw [if_pos c5] at H
   have c5b0 : decide (0 ≤ x5_1) = true := decide_eq_true c5
   clear c5
   by_cases c6 : x5_1 < (l1.length : Int)
   rotate_left
   ·rw [if_neg c6] at H
    exact absurd H (by simp)
   rw [if_pos c6] at H
   have c6b0 : decide (x5_1 < (l1.length : Int)) = true := decide_eq_true c6
   clear c6
   replace H := Option.bind_eq_some_iff.mp H
   obtain ⟨t533, A70, H⟩ := H
   replace H : (if t533 = true then (laws_eqCellS.l0 k1 l0 l1 (wrap64 (x5_1 + 1))) else (some false)) = some true := H
   have A7 := aM A70
   clear A70
   by_cases c8 : t533 = true
   rotate_left
   ·replace c8 := Bool.eq_false_iff.mpr c8
    subst c8
    have H1 : (some false) = some true := by rw [if_neg (show ¬ (false = true) by decide)] at H; exact H
    cases H1
   subst c8
   have H1 : (laws_eqCellS.l0 k1 l0 l1 (wrap64 (x5_1 + 1))) = some true := by rw [if_pos rfl] at H; exact H
   clear H
   have H := H1
   clear H1
   have H' := aM H
   clear H
   try go_wp2
   have _ := aM (below_drew1 HB.out)
   clear HB
   rename_i HB
   have p531 : 0 ≤ (x5_1 : Int) := of_decide_eq_true za
   have q531 : x5_1 < (l0.length : Int) := of_decide_eq_true za
   obtain ⟨ad531, e531, hx531_0, hx531_1⟩ := at_T82 HR0.out x5_1 p531 q531
   have hw531_1 := hx531_1
   have hw531_0 := hx531_0
   cases e531
   replace hx531_0 := zk HB.out hx531_0
   replace hx531_1 := zk HB.out hx531_1
   replace p531 := eq_true p531
   replace q531 := eq_true q531
   have p532 : 0 ≤ (x5_1 : Int) := of_decide_eq_true za
   have q532 : x5_1 < (l1.length : Int) := of_decide_eq_true za
   obtain ⟨ad532, e532, hx532_0, hx532_1⟩ := at_T82 HR1.out x5_1 p532 q532
   have hw532_1 := hx532_1
   have hw532_0 := hx532_0
   cases e532
   replace hx532_0 := zk HB.out hx532_0
   replace hx532_1 := zk HB.out hx532_1
   replace p532 := eq_true p532
   replace q532 := eq_true q532
   refine start_ (n := 10) (S := fun w' => w'.cell? (ad531.add ((x5_1).toNat * 2)) = some (.int .i64 ((rd_T82 l0 x5_1).f0)) ∧ w'.cell? ⟨(ad531.add ((x5_1).toNat * 2)).block, (ad531.add ((x5_1).toNat * 2)).off + 1, none⟩ = some (.int .i64 ((rd_T82 l0 x5_1).f1)) ∧ w'.cell? (ad532.add ((x5_1).toNat * 2)) = some (.int .i64 ((rd_T82 l1 x5_1).f0)) ∧ w'.cell? ⟨(ad532.add ((x5_1).toNat * 2)).block, (ad532.add ((x5_1).toNat * 2)).off + 1, none⟩ = some (.int .i64 ((rd_T82 l1 x5_1).f1))) (ds := []) zA52 (by kernel_rfl) rfl rfl ⟨(zk HB.out hw531_0), (zk HB.out hw531_1), (zk HB.out hw532_0), (zk HB.out hw532_1)⟩ (fun hHeld => ?_); refine with_tabW laws_eqCellS.tab6 laws_eqCellS.bits6 (fun HT_ HW_ => ?_)
   generalize wr.drew = w9 at HB hx531_0 hx531_1 hx532_0 hx532_1 hHeld ⊢
   refine zP 0 (some 17) zA53 ?_
   refine zP 1 (some 18) zA54 ?_
   refine zP 2 (some 19) zA55 ?_
   refine zP 4 (some 21) zA63 ?_
   refine zP 5 (some 22) zA64 ?_
   refine zP 6 (some 23) zA65 ?_
   refine zU4 3 (some 20) zA59 hHeld ?_
   refine zU4 7 (some 24) zA60 hHeld ?_
   refine one_ (i := 8) (N := some 25) zA61 rfl rfl (one_of HT_.out (by kernel_rfl)) (by decide) (fun K hK => ?_)
   refine goes_ Tryz.func64 (by kernel_rfl) rfl #[.agg #[.int .i64 ((rd_T82 l0 x5_1).f0), .int .i64 ((rd_T82 l0 x5_1).f1)], .agg #[.int .i64 ((rd_T82 l1 x5_1).f0), .int .i64 ((rd_T82 l1 x5_1).f1)]] (by rfl) rfl rfl zm ?_
   with_reducible refine (laws_eqCell.calls ((rd_T82 l0 x5_1).f0) ((rd_T82 l0 x5_1).f1) ((rd_T82 l1 x5_1).f0) ((rd_T82 l1 x5_1).f1) true _ A7.out).mono ?_
   rintro e w10 ⟨rfl, hb⟩
   refine ⟨_, rfl, ?_⟩
   have _ := aM (below_step zb hb)
   clear HB
   rename_i HB
   (try clear hb)
   (try clear hb2)
   (try clear hk)
   (try clear hi)
   refine hK.out _ _ ⟨(zk HB.out hw531_0), (zk HB.out hw531_1), (zk HB.out hw532_0), (zk HB.out hw532_1)⟩ (fun hHeld => ?_)
   clear hK K
   refine norm_ (a' := ?_) ?_ ?_
   rotate_left
   ·show Act.put _ (some 25) _ = _
    simp only [Act.put, xA, xB, xC, i64_w, i32_w]
    rfl
   refine zP 9 (some 26) zA62 ?_
   refine done_ (done_of HT_.out (by kernel_rfl)) ?_
   try go_wp2
   go_roundg k1
   case measure => have := HK1.out; omega
   case rel => exact ⟨(wrap64 (x5_1 + 1)), zr, H', ⟨by have := HK1.out; omega⟩, ⟨zb⟩⟩
def laws_eqPiece.f (k : Nat) (l0_0 : List (S82)) (a0_1 : Int) (a0_2 : Bool) (l1_0 : List (S82)) (a1_1 : Int) (a1_2 : Bool) : Option (Bool) := (laws_eqCellS.f k l0_0 l1_0).bind fun t536 => (if t536 = true then (if a0_1 = a1_1 then (if (a0_2 != a1_2) = true then (some false) else (some true)) else (some false)) else (some false))
theorem laws_eqPiece.calls (k : Nat) (A0_0 : Option Addr) (c0_0 : Nat) (l0_0 : List (S82)) (a0_1 : Int) (a0_2 : Bool) (A1_0 : Option Addr) (c1_0 : Nat) (l1_0 : List (S82)) (a1_1 : Int) (a1_2 : Bool) (r : Bool) (w : World) (hr0_0 : Kd.C k82 w A0_0 l0_0.length l0_0) (hc0_0 : l0_0.length ≤ c0_0) (hr1_0 : Kd.C k82 w A1_0 l1_0.length l1_0) (hc1_0 : l1_0.length ≤ c1_0) (h : laws_eqPiece.f k l0_0 a0_1 a0_2 l1_0 a1_1 a1_2 = some r) (hr_ : r = true := by rfl) :
  Calls Tryz.prog 65 #[.agg #[.slice A0_0 l0_0.length c0_0, .int .i64 a0_1, .bool a0_2], .agg #[.slice A1_0 l1_0.length c1_0, .int .i64 a1_1, .bool a1_2]] w fun e w' => e = .returned (.bool r) ∧ Below w.heap.size w w' := by
 subst hr_
 have hu50 := Tryz.underlying50
 have HR0_0 := aM hr0_0
 have HC0_0 := aM hc0_0
 clear hr0_0 hc0_0
 have HR1_0 := aM hr1_0
 have HC1_0 := aM hc1_0
 clear hr1_0 hc1_0
 have HB := aM (Below.refl w.heap.size w)
 have H : ((laws_eqCellS.f k l0_0 l1_0).bind fun t536 => (if t536 = true then (if a0_1 = a1_1 then (if (a0_2 != a1_2) = true then (some false) else (some true)) else (some false)) else (some false))) = some true := h
 clear h
 replace H := Option.bind_eq_some_iff.mp H
 obtain ⟨t536, A30, H⟩ := H
 replace H : (if t536 = true then (if a0_1 = a1_1 then (if (a0_2 != a1_2) = true then (some false) else (some true)) else (some false)) else (some false)) = some true := H
 have A3 := aM A30
 clear A30
 by_cases c4 : t536 = true
 rotate_left
 ·replace c4 := Bool.eq_false_iff.mpr c4
  subst c4
  have H1 : (some false) = some true := by rw [if_neg (show ¬ (false = true) by decide)] at H; exact H
  cases H1
 subst c4
 have H1 : (if a0_1 = a1_1 then (if (a0_2 != a1_2) = true then (some false) else (some true)) else (some false)) = some true := by rw [if_pos rfl] at H; exact H
 clear H
 have H := H1
 clear H1
 by_cases c5 : a0_1 = a1_1
 rotate_left
 ·rw [if_neg c5] at H
  cases H
 rw [if_pos c5] at H
 have c5b0 : (a0_1 == a1_1) = true := beq_iff_eq.mpr c5
 have c5b1 : (a0_1 != a1_1) = false := bne_eq_false_iff_eq.mpr c5
 clear c5
 by_cases c6 : (a0_2 != a1_2) = true
 ·rw [if_pos c6] at H
  cases H
 rw [if_neg c6] at H
 have c6b0 : (a0_2 != a1_2) = false := by simpa using c6
 (try (have c6b1 : decide (a0_2 = a1_2) = true := by simpa using c6))
 (try (have c6b2 : (a0_2 == a1_2) = true := by simpa using c6))
 clear c6
 first | obtain rfl := Option.some.inj H | clear H
 go_enter Tryz.func65, Tryz.ntmps65
 go_wp2_with (first | ((with_reducible refine gate_dst (N := 2) rfl ?_); refine zx 2 #[.slice A0_0 l0_0.length c0_0, .int .i64 a0_1, .bool a0_2] 50 ?_; intro gb534 hg w15 hbox hb; have _ := aM (below_step zb hb); have _ := aM (hbox); have _ := aM ((ze : w.heap.size ≤ gb534)); have _ := aM ((ze : w.heap.size ≤ gb534)); clear HB; rename_i HB BK534 GW534 GE534; clear hb hbox hg) | ((with_reducible refine gate_dst (N := 3) rfl ?_); refine zx 3 #[.slice A1_0 l1_0.length c1_0, .int .i64 a1_1, .bool a1_2] 50 ?_; intro gb535 hg w16 hbox hb; have _ := aM (blk_below (g := gb534) (o := .cells #[.slice A0_0 l0_0.length c0_0, .int .i64 a0_1, .bool a0_2] 50 (0, 0)) (mB_ BK534.out) hb); have _ := aM (below_step (zs GE534.out) hb); have _ := aM (hbox); have _ := aM ((zf GE534.out : w.heap.size ≤ gb535)); have _ := aM ((zf GE534.out : w.heap.size ≤ gb535)); have _ := aM ((zl BK534.out : gb534 ≠ gb535)); have _ := aM ((zn BK534.out : gb535 ≠ gb534)); clear BK534 HB; rename_i BK534 HB BK535 GW535 GE535 NB534_535 NB535_534; clear hb hbox hg; have hnb17 := NB534_535.out; have hnc17 := NB535_534.out; obtain ⟨hcz18_0, hcz18_1, hcz18_2, hfz18_0, hfz18_1, hfz18_2⟩ := zQ3 BK534.out; obtain ⟨hcz19_0, hcz19_1, hcz19_2, hfz19_0, hfz19_1, hfz19_2⟩ := zQ3 BK535.out) | ((with_reducible refine gate_callee (f := 31) rfl ?_); refine goesL_ (some 9) rfl rfl Tryz.func31 (by kernel_rfl) rfl #[.slice A0_0 l0_0.length c0_0, .slice A1_0 l1_0.length c1_0] rfl zm ?_; (with_reducible refine (laws_eqCellS.calls k _ _ l0_0 _ _ l1_0 true _ ?side1 ?side2 ?side3 ?side4 A3.out).mono ?_); (case side1 => repeat (first | exact (Kd.C_below HR0_0.out HB.out) | (with_reducible refine Kd.C_alloc ?_ _) | (with_reducible refine Kd.C_drewN ?_ _) | (with_reducible refine Kd.C_drew ?_))); (case side2 => exact HC0_0.out); (case side3 => repeat (first | exact (Kd.C_below HR1_0.out HB.out) | (with_reducible refine Kd.C_alloc ?_ _) | (with_reducible refine Kd.C_drewN ?_ _) | (with_reducible refine Kd.C_drew ?_))); (case side4 => exact HC1_0.out); rintro e w20 ⟨rfl, hb⟩; refine ⟨_, rfl, ?_⟩; have _ := aM (blk_below (g := gb534) (o := .cells #[.slice A0_0 l0_0.length c0_0, .int .i64 a0_1, .bool a0_2] 50 (0, 0)) (mB_ BK534.out) hb); have _ := aM (blk_below (g := gb535) (o := .cells #[.slice A1_0 l1_0.length c1_0, .int .i64 a1_1, .bool a1_2] 50 (0, 0)) (mB_ BK535.out) hb); have _ := aM (below_step (zt GE534.out GE535.out) hb); clear BK534 BK535 HB; rename_i BK534 BK535 HB; (try clear hb); (try clear hb2); (try clear hk); (try clear hi); obtain ⟨hcz21_0, hcz21_1, hcz21_2, hfz21_0, hfz21_1, hfz21_2⟩ := zQ3 BK534.out; obtain ⟨hcz22_0, hcz22_1, hcz22_2, hfz22_0, hfz22_1, hfz22_2⟩ := zQ3 BK535.out))
 go_ret
 exact ⟨zw, zt GE534.out GE535.out⟩
def laws_eqPieceS.l0 : Nat → List (S50) → List (S50) → Int → Option (Bool)
 | 0, _, _, _ => none
 | k + 1, x0, x1, x5 => if x5 < (x0.length : Int) then (if 0 ≤ x5 then (if x5 < (x1.length : Int) then ((laws_eqPiece.f k ((rd_T50 x0 x5).f0) ((rd_T50 x0 x5).f1) ((rd_T50 x0 x5).f2) ((rd_T50 x1 x5).f0) ((rd_T50 x1 x5).f1) ((rd_T50 x1 x5).f2)).bind fun t539 => (if t539 = true then (laws_eqPieceS.l0 k x0 x1 (wrap64 (x5 + 1))) else (some false))) else (none)) else (none)) else (some true)
def laws_eqPieceS.f (k : Nat) (l0 : List (S50)) (l1 : List (S50)) : Option (Bool) := if (l0.length : Int) = (l1.length : Int) then (laws_eqPieceS.l0 k l0 l1 0) else (some false)
def laws_eqPieceS.T6 : Bool × List (List Nat × List Nat) := (true, [([], []), ([], []), ([0, 1], [0, 1]), ([2], [2]), ([], []), ([], []), ([4, 5], [4, 5]), ([6], [6]), ([3, 7], [3, 7]), ([8], [8])])
def laws_eqPieceS.B6 : List Nat := [0, 0, 3, 7, 0, 0, 48, 112, 255, 511]
theorem laws_eqPieceS.tab6 : rtab .any (opsOf Tryz.f32 6) = laws_eqPieceS.T6 := by kernel_rfl
theorem laws_eqPieceS.bits6 : waitsOk laws_eqPieceS.T6.2 laws_eqPieceS.B6 = true := by kernel_rfl
theorem laws_eqPieceS.calls (k : Nat) (A0 : Option Addr) (c0 : Nat) (l0 : List (S50)) (A1 : Option Addr) (c1 : Nat) (l1 : List (S50)) (r : Bool) (w : World) (hr0 : Kd.C k50 w A0 l0.length l0) (hc0 : l0.length ≤ c0) (hr1 : Kd.C k50 w A1 l1.length l1) (hc1 : l1.length ≤ c1) (h : laws_eqPieceS.f k l0 l1 = some r) (hr_ : r = true := by rfl) :
  Calls Tryz.prog 32 #[.slice A0 l0.length c0, .slice A1 l1.length c1] w fun e w' => e = .returned (.bool r) ∧ Below w.heap.size w w' := by
 subst hr_
 have hu50 := Tryz.underlying50
 have HR0 := aM hr0
 have HC0 := aM hc0
 clear hr0 hc0
 have HR1 := aM hr1
 have HC1 := aM hc1
 clear hr1 hc1
 have HB := aM (Below.refl w.heap.size w)
 have H : (if (l0.length : Int) = (l1.length : Int) then (laws_eqPieceS.l0 k l0 l1 0) else (some false)) = some true := h
 clear h
 by_cases c3 : (l0.length : Int) = (l1.length : Int)
 rotate_left
 ·rw [if_neg c3] at H
  cases H
 rw [if_pos c3] at H
 have c3b0 : ((l0.length : Int) == (l1.length : Int)) = true := beq_iff_eq.mpr c3
 have c3b1 : ((l0.length : Int) != (l1.length : Int)) = false := bne_eq_false_iff_eq.mpr c3
 have c3b2 : (l0.length == l1.length) = true := by first | simpa using c3 | (simp at c3 ⊢; omega)
 clear c3
 have H' := aM H
 clear H
 go_enter Tryz.func32, Tryz.ntmps32
 go_wp2
 go_loopg [5] k (fun kq v5 w' => ∃ (x5_1 : Int), v5 = .int .i64 x5_1 ∧ Aside0 (laws_eqPieceS.l0 kq l0 l1 x5_1 = some true) ∧ Aside0 (kq ≤ k) ∧ Aside0 (Below w.heap.size w w'))
 case atStart => exact ⟨(0), zr, H', ⟨Nat.le_refl _⟩, ⟨zb⟩⟩
 case round =>
  clear H'
  try clear c1
  try clear p2
  try clear c3
  try clear c3b0
  try clear c3b1
  try clear c3b2
  obtain ⟨x5_1, rfl, HA, HK1, HB⟩ := hrel
  cases gk with
  | zero => exact absurd HA.out (by simp [laws_eqPieceS.l0])
  | succ k1 =>
   have H := HA.out
   clear HA
   simp only [laws_eqPieceS.l0] at H
   by_cases c4 : x5_1 < (l0.length : Int)
   rotate_left
   ·rw [if_neg c4] at H
    have c4b0 : decide (x5_1 < (l0.length : Int)) = false := decide_eq_false c4
    clear c4
    first | obtain rfl := Option.some.inj H | clear H
    go_wp2
    go_ret
    exact ⟨zw, zb⟩
   rw [if_pos c4] at H
   have c4b0 : decide (x5_1 < (l0.length : Int)) = true := decide_eq_true c4
   clear c4
   by_cases c5 : 0 ≤ x5_1
   rotate_left
   ·rw [if_neg c5] at H
    exact absurd H (by simp)
   rw [if_pos c5] at H
   have c5b0 : decide (0 ≤ x5_1) = true := decide_eq_true c5
   clear c5
   by_cases c6 : x5_1 < (l1.length : Int)
   rotate_left
   ·rw [if_neg c6] at H
    exact absurd H (by simp)
   rw [if_pos c6] at H
   have c6b0 : decide (x5_1 < (l1.length : Int)) = true := decide_eq_true c6
   clear c6
   replace H := Option.bind_eq_some_iff.mp H
   obtain ⟨t539, A70, H⟩ := H
   replace H : (if t539 = true then (laws_eqPieceS.l0 k1 l0 l1 (wrap64 (x5_1 + 1))) else (some false)) = some true := H
   have A7 := aM A70
   clear A70
   by_cases c8 : t539 = true
   rotate_left
   ·replace c8 := Bool.eq_false_iff.mpr c8
    subst c8
    have H1 : (some false) = some true := by rw [if_neg (show ¬ (false = true) by decide)] at H; exact H
    cases H1
   subst c8
   have H1 : (laws_eqPieceS.l0 k1 l0 l1 (wrap64 (x5_1 + 1))) = some true := by rw [if_pos rfl] at H; exact H
   clear H
   have H := H1
   clear H1
   have H' := aM H
   clear H
   try go_wp2
   have _ := aM (below_drew1 HB.out)
   clear HB
   rename_i HB
   have p537 : 0 ≤ (x5_1 : Int) := of_decide_eq_true za
   have q537 : x5_1 < (l0.length : Int) := of_decide_eq_true za
   obtain ⟨ad537, A537_0, c537_0, e537, hx537_0, hx537_1, hx537_2, hl537_0, hi537_0⟩ := at_T50 HR0.out x5_1 p537 q537
   have hw537_2 := hx537_2
   have hw537_1 := hx537_1
   have hw537_0 := hx537_0
   cases e537
   replace hx537_0 := zk HB.out hx537_0
   replace hx537_1 := zk HB.out hx537_1
   replace hx537_2 := zk HB.out hx537_2
   have HR537_0 := aM hi537_0
   have HC537_0 := aM hl537_0
   clear hi537_0 hl537_0
   replace p537 := eq_true p537
   replace q537 := eq_true q537
   have p538 : 0 ≤ (x5_1 : Int) := of_decide_eq_true za
   have q538 : x5_1 < (l1.length : Int) := of_decide_eq_true za
   obtain ⟨ad538, A538_0, c538_0, e538, hx538_0, hx538_1, hx538_2, hl538_0, hi538_0⟩ := at_T50 HR1.out x5_1 p538 q538
   have hw538_2 := hx538_2
   have hw538_1 := hx538_1
   have hw538_0 := hx538_0
   cases e538
   replace hx538_0 := zk HB.out hx538_0
   replace hx538_1 := zk HB.out hx538_1
   replace hx538_2 := zk HB.out hx538_2
   have HR538_0 := aM hi538_0
   have HC538_0 := aM hl538_0
   clear hi538_0 hl538_0
   replace p538 := eq_true p538
   replace q538 := eq_true q538
   refine start_ (n := 10) (S := fun w' => w'.cell? (ad537.add ((x5_1).toNat * 3)) = some (.slice A537_0 ((rd_T50 l0 x5_1).f0).length c537_0) ∧ w'.cell? ⟨(ad537.add ((x5_1).toNat * 3)).block, (ad537.add ((x5_1).toNat * 3)).off + 1, none⟩ = some (.int .i64 ((rd_T50 l0 x5_1).f1)) ∧ w'.cell? ⟨(ad537.add ((x5_1).toNat * 3)).block, (ad537.add ((x5_1).toNat * 3)).off + 2, none⟩ = some (.bool ((rd_T50 l0 x5_1).f2)) ∧ w'.cell? (ad538.add ((x5_1).toNat * 3)) = some (.slice A538_0 ((rd_T50 l1 x5_1).f0).length c538_0) ∧ w'.cell? ⟨(ad538.add ((x5_1).toNat * 3)).block, (ad538.add ((x5_1).toNat * 3)).off + 1, none⟩ = some (.int .i64 ((rd_T50 l1 x5_1).f1)) ∧ w'.cell? ⟨(ad538.add ((x5_1).toNat * 3)).block, (ad538.add ((x5_1).toNat * 3)).off + 2, none⟩ = some (.bool ((rd_T50 l1 x5_1).f2))) (ds := []) zA52 (by kernel_rfl) rfl rfl ⟨(zk HB.out hw537_0), (zk HB.out hw537_1), (zk HB.out hw537_2), (zk HB.out hw538_0), (zk HB.out hw538_1), (zk HB.out hw538_2)⟩ (fun hHeld => ?_); refine with_tabW laws_eqPieceS.tab6 laws_eqPieceS.bits6 (fun HT_ HW_ => ?_)
   generalize wr.drew = w9 at HB HR537_0 HR538_0 hx537_0 hx537_1 hx537_2 hx538_0 hx538_1 hx538_2 hHeld ⊢
   refine zP 0 (some 17) zA53 ?_
   refine zP 1 (some 18) zA54 ?_
   refine zP 2 (some 19) zA55 ?_
   refine zP 4 (some 21) zA63 ?_
   refine zP 5 (some 22) zA64 ?_
   refine zP 6 (some 23) zA65 ?_
   refine zU6 3 (some 20) zA59 hHeld ?_
   refine zU6 7 (some 24) zA60 hHeld ?_
   refine one_ (i := 8) (N := some 25) zA61 rfl rfl (one_of HT_.out (by kernel_rfl)) (by decide) (fun K hK => ?_)
   refine goes_ Tryz.func65 (by kernel_rfl) rfl #[.agg #[.slice A537_0 ((rd_T50 l0 x5_1).f0).length c537_0, .int .i64 ((rd_T50 l0 x5_1).f1), .bool ((rd_T50 l0 x5_1).f2)], .agg #[.slice A538_0 ((rd_T50 l1 x5_1).f0).length c538_0, .int .i64 ((rd_T50 l1 x5_1).f1), .bool ((rd_T50 l1 x5_1).f2)]] (by rfl) rfl rfl zm ?_
   with_reducible refine (laws_eqPiece.calls k1 _ _ ((rd_T50 l0 x5_1).f0) ((rd_T50 l0 x5_1).f1) ((rd_T50 l0 x5_1).f2) _ _ ((rd_T50 l1 x5_1).f0) ((rd_T50 l1 x5_1).f1) ((rd_T50 l1 x5_1).f2) true _ ?side1 ?side2 ?side3 ?side4 A7.out).mono ?_
   (case side1 => repeat (first | exact (Kd.C_below HR537_0.out HB.out) | (with_reducible refine Kd.C_alloc ?_ _) | (with_reducible refine Kd.C_drewN ?_ _) | (with_reducible refine Kd.C_drew ?_)))
   (case side2 => exact HC537_0.out)
   (case side3 => repeat (first | exact (Kd.C_below HR538_0.out HB.out) | (with_reducible refine Kd.C_alloc ?_ _) | (with_reducible refine Kd.C_drewN ?_ _) | (with_reducible refine Kd.C_drew ?_)))
   (case side4 => exact HC538_0.out)
   rintro e w10 ⟨rfl, hb⟩
   refine ⟨_, rfl, ?_⟩
   have _ := aM (below_step zb hb)
   clear HB
   rename_i HB
   (try clear hb)
   (try clear hb2)
   (try clear hk)
   (try clear hi)
   refine hK.out _ _ ⟨(zk HB.out hw537_0), (zk HB.out hw537_1), (zk HB.out hw537_2), (zk HB.out hw538_0), (zk HB.out hw538_1), (zk HB.out hw538_2)⟩ (fun hHeld => ?_)
   clear hK K
   refine norm_ (a' := ?_) ?_ ?_
   rotate_left
   ·show Act.put _ (some 25) _ = _
    simp only [Act.put, xA, xB, xC, i64_w, i32_w]
    rfl
   refine zP 9 (some 26) zA62 ?_
   refine done_ (done_of HT_.out (by kernel_rfl)) ?_
   try go_wp2
   go_roundg k1
   case measure => have := HK1.out; omega
   case rel => exact ⟨(wrap64 (x5_1 + 1)), zr, H', ⟨by have := HK1.out; omega⟩, ⟨zb⟩⟩
def laws_eqPuzzle.f (k : Nat) (l0_0 : List (S82)) (l0_1 : List (S50)) (l1_0 : List (S82)) (l1_1 : List (S50)) : Option (Bool) := (laws_eqCellS.f k l0_0 l1_0).bind fun t542 => (if t542 = true then ((laws_eqPieceS.f k l0_1 l1_1).bind fun t543 => (if t543 = true then (some true) else (some false))) else (some false))
theorem laws_eqPuzzle.calls (k : Nat) (A0_0 : Option Addr) (c0_0 : Nat) (l0_0 : List (S82)) (A0_1 : Option Addr) (c0_1 : Nat) (l0_1 : List (S50)) (A1_0 : Option Addr) (c1_0 : Nat) (l1_0 : List (S82)) (A1_1 : Option Addr) (c1_1 : Nat) (l1_1 : List (S50)) (r : Bool) (w : World) (hr0_0 : Kd.C k82 w A0_0 l0_0.length l0_0) (hc0_0 : l0_0.length ≤ c0_0) (hr0_1 : Kd.C k50 w A0_1 l0_1.length l0_1) (hc0_1 : l0_1.length ≤ c0_1) (hr1_0 : Kd.C k82 w A1_0 l1_0.length l1_0) (hc1_0 : l1_0.length ≤ c1_0) (hr1_1 : Kd.C k50 w A1_1 l1_1.length l1_1) (hc1_1 : l1_1.length ≤ c1_1) (h : laws_eqPuzzle.f k l0_0 l0_1 l1_0 l1_1 = some r) (hr_ : r = true := by rfl) :
  Calls Tryz.prog 10 #[.agg #[.slice A0_0 l0_0.length c0_0, .slice A0_1 l0_1.length c0_1], .agg #[.slice A1_0 l1_0.length c1_0, .slice A1_1 l1_1.length c1_1]] w fun e w' => e = .returned (.bool r) ∧ Below w.heap.size w w' := by
 subst hr_
 have hu31 := Tryz.underlying31
 have HR0_0 := aM hr0_0
 have HC0_0 := aM hc0_0
 clear hr0_0 hc0_0
 have HR0_1 := aM hr0_1
 have HC0_1 := aM hc0_1
 clear hr0_1 hc0_1
 have HR1_0 := aM hr1_0
 have HC1_0 := aM hc1_0
 clear hr1_0 hc1_0
 have HR1_1 := aM hr1_1
 have HC1_1 := aM hc1_1
 clear hr1_1 hc1_1
 have HB := aM (Below.refl w.heap.size w)
 have H : ((laws_eqCellS.f k l0_0 l1_0).bind fun t542 => (if t542 = true then ((laws_eqPieceS.f k l0_1 l1_1).bind fun t543 => (if t543 = true then (some true) else (some false))) else (some false))) = some true := h
 clear h
 replace H := Option.bind_eq_some_iff.mp H
 obtain ⟨t542, A30, H⟩ := H
 replace H : (if t542 = true then ((laws_eqPieceS.f k l0_1 l1_1).bind fun t543 => (if t543 = true then (some true) else (some false))) else (some false)) = some true := H
 have A3 := aM A30
 clear A30
 by_cases c4 : t542 = true
 rotate_left
 ·replace c4 := Bool.eq_false_iff.mpr c4
  subst c4
  have H1 : (some false) = some true := by rw [if_neg (show ¬ (false = true) by decide)] at H; exact H
  cases H1
 subst c4
 have H1 : ((laws_eqPieceS.f k l0_1 l1_1).bind fun t543 => (if t543 = true then (some true) else (some false))) = some true := by rw [if_pos rfl] at H; exact H
 clear H
 have H := H1
 clear H1
 replace H := Option.bind_eq_some_iff.mp H
 obtain ⟨t543, A50, H⟩ := H
 replace H : (if t543 = true then (some true) else (some false)) = some true := H
 have A5 := aM A50
 clear A50
 by_cases c6 : t543 = true
 rotate_left
 ·replace c6 := Bool.eq_false_iff.mpr c6
  subst c6
  have H1 : (some false) = some true := by rw [if_neg (show ¬ (false = true) by decide)] at H; exact H
  cases H1
 subst c6
 have H1 : (some true) = some true := rfl
 clear H
 have H := H1
 clear H1
 first | obtain rfl := Option.some.inj H | clear H
 go_enter Tryz.func10, Tryz.ntmps10
 go_wp2_with (first | ((with_reducible refine gate_dst (N := 2) rfl ?_); refine zx 2 #[.slice A0_0 l0_0.length c0_0, .slice A0_1 l0_1.length c0_1] 31 ?_; intro gb540 hg w7 hbox hb; have _ := aM (below_step zb hb); have _ := aM (hbox); have _ := aM ((ze : w.heap.size ≤ gb540)); have _ := aM ((ze : w.heap.size ≤ gb540)); clear HB; rename_i HB BK540 GW540 GE540; clear hb hbox hg) | ((with_reducible refine gate_dst (N := 3) rfl ?_); refine zx 3 #[.slice A1_0 l1_0.length c1_0, .slice A1_1 l1_1.length c1_1] 31 ?_; intro gb541 hg w8 hbox hb; have _ := aM (blk_below (g := gb540) (o := .cells #[.slice A0_0 l0_0.length c0_0, .slice A0_1 l0_1.length c0_1] 31 (0, 0)) (mB_ BK540.out) hb); have _ := aM (below_step (zs GE540.out) hb); have _ := aM (hbox); have _ := aM ((zf GE540.out : w.heap.size ≤ gb541)); have _ := aM ((zf GE540.out : w.heap.size ≤ gb541)); have _ := aM ((zl BK540.out : gb540 ≠ gb541)); have _ := aM ((zn BK540.out : gb541 ≠ gb540)); clear BK540 HB; rename_i BK540 HB BK541 GW541 GE541 NB540_541 NB541_540; clear hb hbox hg; have hnb9 := NB540_541.out; have hnc9 := NB541_540.out; obtain ⟨hcz10_0, hcz10_1, hfz10_0, hfz10_1⟩ := zQ2 BK540.out; obtain ⟨hcz11_0, hcz11_1, hfz11_0, hfz11_1⟩ := zQ2 BK541.out) | ((with_reducible refine gate_callee (f := 31) rfl ?_); refine goesL_ (some 9) rfl rfl Tryz.func31 (by kernel_rfl) rfl #[.slice A0_0 l0_0.length c0_0, .slice A1_0 l1_0.length c1_0] rfl zm ?_; (with_reducible refine (laws_eqCellS.calls k _ _ l0_0 _ _ l1_0 true _ ?side1 ?side2 ?side3 ?side4 A3.out).mono ?_); (case side1 => repeat (first | exact (Kd.C_below HR0_0.out HB.out) | (with_reducible refine Kd.C_alloc ?_ _) | (with_reducible refine Kd.C_drewN ?_ _) | (with_reducible refine Kd.C_drew ?_))); (case side2 => exact HC0_0.out); (case side3 => repeat (first | exact (Kd.C_below HR1_0.out HB.out) | (with_reducible refine Kd.C_alloc ?_ _) | (with_reducible refine Kd.C_drewN ?_ _) | (with_reducible refine Kd.C_drew ?_))); (case side4 => exact HC1_0.out); rintro e w12 ⟨rfl, hb⟩; refine ⟨_, rfl, ?_⟩; have _ := aM (blk_below (g := gb540) (o := .cells #[.slice A0_0 l0_0.length c0_0, .slice A0_1 l0_1.length c0_1] 31 (0, 0)) (mB_ BK540.out) hb); have _ := aM (blk_below (g := gb541) (o := .cells #[.slice A1_0 l1_0.length c1_0, .slice A1_1 l1_1.length c1_1] 31 (0, 0)) (mB_ BK541.out) hb); have _ := aM (below_step (zt GE540.out GE541.out) hb); clear BK540 BK541 HB; rename_i BK540 BK541 HB; (try clear hb); (try clear hb2); (try clear hk); (try clear hi); obtain ⟨hcz13_0, hcz13_1, hfz13_0, hfz13_1⟩ := zQ2 BK540.out; obtain ⟨hcz14_0, hcz14_1, hfz14_0, hfz14_1⟩ := zQ2 BK541.out) | ((with_reducible refine gate_callee (f := 32) rfl ?_); refine goesL_ (some 15) rfl rfl Tryz.func32 (by kernel_rfl) rfl #[.slice A0_1 l0_1.length c0_1, .slice A1_1 l1_1.length c1_1] rfl zm ?_; (with_reducible refine (laws_eqPieceS.calls k _ _ l0_1 _ _ l1_1 true _ ?side1 ?side2 ?side3 ?side4 A5.out).mono ?_); (case side1 => repeat (first | exact (Kd.C_below HR0_1.out HB.out) | (with_reducible refine Kd.C_alloc ?_ _) | (with_reducible refine Kd.C_drewN ?_ _) | (with_reducible refine Kd.C_drew ?_))); (case side2 => exact HC0_1.out); (case side3 => repeat (first | exact (Kd.C_below HR1_1.out HB.out) | (with_reducible refine Kd.C_alloc ?_ _) | (with_reducible refine Kd.C_drewN ?_ _) | (with_reducible refine Kd.C_drew ?_))); (case side4 => exact HC1_1.out); rintro e w15 ⟨rfl, hb⟩; refine ⟨_, rfl, ?_⟩; have _ := aM (blk_below (g := gb540) (o := .cells #[.slice A0_0 l0_0.length c0_0, .slice A0_1 l0_1.length c0_1] 31 (0, 0)) (mB_ BK540.out) hb); have _ := aM (blk_below (g := gb541) (o := .cells #[.slice A1_0 l1_0.length c1_0, .slice A1_1 l1_1.length c1_1] 31 (0, 0)) (mB_ BK541.out) hb); have _ := aM (below_step (zt GE540.out GE541.out) hb); clear BK540 BK541 HB; rename_i BK540 BK541 HB; (try clear hb); (try clear hb2); (try clear hk); (try clear hi)))
 go_ret
 exact ⟨zw, zt GE540.out GE541.out⟩
def laws_FnExactPuzzleText.f (k : Nat) (l0_0 : List (S84)) (l0_1 : List (S76)) : Option (Bool) := (laws_szPuzzle.f k l0_0 l0_1 1048576).bind fun t545 => (if t545 < 0 then (some true) else ((laws_toPuzzle.f k l0_0 l0_1).bind fun bt546 => ((spec_PuzzleText.f k bt546.1 bt546.2).bind fun t552 => ((laws_toPuzzle.f k l0_0 l0_1).bind fun bt553 => ((impl_PuzzleText.f k bt553.1 bt553.2).bind fun t560 => (if t560.toList = t552.toList then ((laws_toPuzzle.f k l0_0 l0_1).bind fun bt561 => ((laws_eqPuzzle.f k bt553.1 bt553.2 bt561.1 bt561.2).bind fun t567 => (if t567 = true then (some true) else (some false)))) else (some false)))))))
theorem laws_FnExactPuzzleText.calls (k : Nat) (A0_0 : Option Addr) (c0_0 : Nat) (l0_0 : List (S84)) (A0_1 : Option Addr) (c0_1 : Nat) (l0_1 : List (S76)) (r : Bool) (w : World) (hr0_0 : Kd.C k84 w A0_0 l0_0.length l0_0) (hc0_0 : l0_0.length ≤ c0_0) (hr0_1 : Kd.C k76 w A0_1 l0_1.length l0_1) (hc0_1 : l0_1.length ≤ c0_1) (h : laws_FnExactPuzzleText.f k l0_0 l0_1 = some r) (hr_ : r = true := by rfl) :
  Calls Tryz.prog 3 #[.agg #[.slice A0_0 l0_0.length c0_0, .slice A0_1 l0_1.length c0_1]] w fun e w' => e = .returned (.bool r) ∧ Below w.heap.size w w' := by
 subst hr_
 have hu25 := Tryz.underlying25
 have hu31 := Tryz.underlying31
 have HR0_0 := aM hr0_0
 have HC0_0 := aM hc0_0
 clear hr0_0 hc0_0
 have HR0_1 := aM hr0_1
 have HC0_1 := aM hc0_1
 clear hr0_1 hc0_1
 have HB := aM (Below.refl w.heap.size w)
 have H : ((laws_szPuzzle.f k l0_0 l0_1 1048576).bind fun t545 => (if t545 < 0 then (some true) else ((laws_toPuzzle.f k l0_0 l0_1).bind fun bt546 => ((spec_PuzzleText.f k bt546.1 bt546.2).bind fun t552 => ((laws_toPuzzle.f k l0_0 l0_1).bind fun bt553 => ((impl_PuzzleText.f k bt553.1 bt553.2).bind fun t560 => (if t560.toList = t552.toList then ((laws_toPuzzle.f k l0_0 l0_1).bind fun bt561 => ((laws_eqPuzzle.f k bt553.1 bt553.2 bt561.1 bt561.2).bind fun t567 => (if t567 = true then (some true) else (some false)))) else (some false)))))))) = some true := h
 clear h
 replace H := Option.bind_eq_some_iff.mp H
 obtain ⟨t545, A20, H⟩ := H
 replace H : (if t545 < 0 then (some true) else ((laws_toPuzzle.f k l0_0 l0_1).bind fun bt546 => ((spec_PuzzleText.f k bt546.1 bt546.2).bind fun t552 => ((laws_toPuzzle.f k l0_0 l0_1).bind fun bt553 => ((impl_PuzzleText.f k bt553.1 bt553.2).bind fun t560 => (if t560.toList = t552.toList then ((laws_toPuzzle.f k l0_0 l0_1).bind fun bt561 => ((laws_eqPuzzle.f k bt553.1 bt553.2 bt561.1 bt561.2).bind fun t567 => (if t567 = true then (some true) else (some false)))) else (some false))))))) = some true := H
 have A2 := aM A20
 clear A20
 by_cases c3 : t545 < 0
 ·rw [if_pos c3] at H
  have c3b0 : decide (t545 < 0) = true := decide_eq_true c3
  clear c3
  first | obtain rfl := Option.some.inj H | clear H
  go_enter Tryz.func3, Tryz.ntmps3
  go_wp2_with (first | ((with_reducible refine gate_dst (N := 1) rfl ?_); refine zx 1 #[.slice A0_0 l0_0.length c0_0, .slice A0_1 l0_1.length c0_1] 25 ?_; intro gb544 hg w4 hbox hb; have _ := aM (below_step zb hb); have _ := aM (hbox); have _ := aM ((ze : w.heap.size ≤ gb544)); have _ := aM ((ze : w.heap.size ≤ gb544)); clear HB; rename_i HB BK544 GW544 GE544; clear hb hbox hg; obtain ⟨hcz5_0, hcz5_1, hfz5_0, hfz5_1⟩ := zQ2 BK544.out) | ((with_reducible refine gate_callee (f := 6) rfl ?_); refine goesL_ (some 9) rfl rfl Tryz.func6 (by kernel_rfl) rfl #[.agg #[.slice A0_0 l0_0.length c0_0, .slice A0_1 l0_1.length c0_1], .int .i64 1048576] rfl zm ?_; (with_reducible refine (laws_szPuzzle.calls k _ _ l0_0 _ _ l0_1 1048576 t545 _ ?side1 ?side2 ?side3 ?side4 A2.out).mono ?_); (case side1 => repeat (first | exact (Kd.C_below HR0_0.out HB.out) | (with_reducible refine Kd.C_alloc ?_ _) | (with_reducible refine Kd.C_drewN ?_ _) | (with_reducible refine Kd.C_drew ?_))); (case side2 => exact HC0_0.out); (case side3 => repeat (first | exact (Kd.C_below HR0_1.out HB.out) | (with_reducible refine Kd.C_alloc ?_ _) | (with_reducible refine Kd.C_drewN ?_ _) | (with_reducible refine Kd.C_drew ?_))); (case side4 => exact HC0_1.out); rintro e w6 ⟨rfl, hb⟩; refine ⟨_, rfl, ?_⟩; have _ := aM (blk_below (g := gb544) (o := .cells #[.slice A0_0 l0_0.length c0_0, .slice A0_1 l0_1.length c0_1] 25 (0, 0)) (mB_ BK544.out) hb); have _ := aM (below_step (zs GE544.out) hb); clear BK544 HB; rename_i BK544 HB; (try clear hb); (try clear hb2); (try clear hk); (try clear hi)))
  go_ret
  exact ⟨zw, zs GE544.out⟩
 rw [if_neg c3] at H
 have c3b0 : decide (t545 < 0) = false := decide_eq_false c3
 clear c3
 replace H := Option.bind_eq_some_iff.mp H
 obtain ⟨⟨t546, t549⟩, A70, H⟩ := H
 replace H : ((spec_PuzzleText.f k t546 t549).bind fun t552 => ((laws_toPuzzle.f k l0_0 l0_1).bind fun bt553 => ((impl_PuzzleText.f k bt553.1 bt553.2).bind fun t560 => (if t560.toList = t552.toList then ((laws_toPuzzle.f k l0_0 l0_1).bind fun bt561 => ((laws_eqPuzzle.f k bt553.1 bt553.2 bt561.1 bt561.2).bind fun t567 => (if t567 = true then (some true) else (some false)))) else (some false))))) = some true := H
 have A7 := aM A70
 clear A70
 replace H := Option.bind_eq_some_iff.mp H
 obtain ⟨t552, A80, H⟩ := H
 replace H : ((laws_toPuzzle.f k l0_0 l0_1).bind fun bt553 => ((impl_PuzzleText.f k bt553.1 bt553.2).bind fun t560 => (if t560.toList = t552.toList then ((laws_toPuzzle.f k l0_0 l0_1).bind fun bt561 => ((laws_eqPuzzle.f k bt553.1 bt553.2 bt561.1 bt561.2).bind fun t567 => (if t567 = true then (some true) else (some false)))) else (some false)))) = some true := H
 have A8 := aM A80
 clear A80
 replace H := Option.bind_eq_some_iff.mp H
 obtain ⟨⟨t553, t556⟩, A90, H⟩ := H
 replace H : ((impl_PuzzleText.f k t553 t556).bind fun t560 => (if t560.toList = t552.toList then ((laws_toPuzzle.f k l0_0 l0_1).bind fun bt561 => ((laws_eqPuzzle.f k t553 t556 bt561.1 bt561.2).bind fun t567 => (if t567 = true then (some true) else (some false)))) else (some false))) = some true := H
 have A9 := aM A90
 clear A90
 replace H := Option.bind_eq_some_iff.mp H
 obtain ⟨t560, A100, H⟩ := H
 replace H : (if t560.toList = t552.toList then ((laws_toPuzzle.f k l0_0 l0_1).bind fun bt561 => ((laws_eqPuzzle.f k t553 t556 bt561.1 bt561.2).bind fun t567 => (if t567 = true then (some true) else (some false)))) else (some false)) = some true := H
 have A10 := aM A100
 clear A100
 by_cases c11 : t560.toList = t552.toList
 rotate_left
 ·rw [if_neg c11] at H
  cases H
 rw [if_pos c11] at H
 have c11b0 : (t560.toList == t552.toList) = true := beq_iff_eq.mpr c11
 have c11b1 : (t560.toList != t552.toList) = false := bne_eq_false_iff_eq.mpr c11
 clear c11
 replace H := Option.bind_eq_some_iff.mp H
 obtain ⟨⟨t561, t564⟩, A120, H⟩ := H
 replace H : ((laws_eqPuzzle.f k t553 t556 t561 t564).bind fun t567 => (if t567 = true then (some true) else (some false))) = some true := H
 have A12 := aM A120
 clear A120
 replace H := Option.bind_eq_some_iff.mp H
 obtain ⟨t567, A130, H⟩ := H
 replace H : (if t567 = true then (some true) else (some false)) = some true := H
 have A13 := aM A130
 clear A130
 by_cases c14 : t567 = true
 rotate_left
 ·replace c14 := Bool.eq_false_iff.mpr c14
  subst c14
  have H1 : (some false) = some true := by rw [if_neg (show ¬ (false = true) by decide)] at H; exact H
  cases H1
 subst c14
 have H1 : (some true) = some true := rfl
 clear H
 have H := H1
 clear H1
 first | obtain rfl := Option.some.inj H | clear H
 go_enter Tryz.func3, Tryz.ntmps3
 try go_wp2_with (first | ((with_reducible refine gate_dst (N := 1) rfl ?_); refine zx 1 #[.slice A0_0 l0_0.length c0_0, .slice A0_1 l0_1.length c0_1] 25 ?_; intro gb544 hg w15 hbox hb; have _ := aM (below_step zb hb); have _ := aM (hbox); have _ := aM ((ze : w.heap.size ≤ gb544)); have _ := aM ((ze : w.heap.size ≤ gb544)); clear HB; rename_i HB BK544 GW544 GE544; clear hb hbox hg; obtain ⟨hcz16_0, hcz16_1, hfz16_0, hfz16_1⟩ := zQ2 BK544.out) | ((with_reducible refine gate_callee (f := 6) rfl ?_); refine goesL_ (some 9) rfl rfl Tryz.func6 (by kernel_rfl) rfl #[.agg #[.slice A0_0 l0_0.length c0_0, .slice A0_1 l0_1.length c0_1], .int .i64 1048576] rfl zm ?_; (with_reducible refine (laws_szPuzzle.calls k _ _ l0_0 _ _ l0_1 1048576 t545 _ ?side1 ?side2 ?side3 ?side4 A2.out).mono ?_); (case side1 => repeat (first | exact (Kd.C_below HR0_0.out HB.out) | (with_reducible refine Kd.C_alloc ?_ _) | (with_reducible refine Kd.C_drewN ?_ _) | (with_reducible refine Kd.C_drew ?_))); (case side2 => exact HC0_0.out); (case side3 => repeat (first | exact (Kd.C_below HR0_1.out HB.out) | (with_reducible refine Kd.C_alloc ?_ _) | (with_reducible refine Kd.C_drewN ?_ _) | (with_reducible refine Kd.C_drew ?_))); (case side4 => exact HC0_1.out); rintro e w17 ⟨rfl, hb⟩; refine ⟨_, rfl, ?_⟩; have _ := aM (blk_below (g := gb544) (o := .cells #[.slice A0_0 l0_0.length c0_0, .slice A0_1 l0_1.length c0_1] 25 (0, 0)) (mB_ BK544.out) hb); have _ := aM (below_step (zs GE544.out) hb); clear BK544 HB; rename_i BK544 HB; (try clear hb); (try clear hb2); (try clear hk); (try clear hi); obtain ⟨hcz18_0, hcz18_1, hfz18_0, hfz18_1⟩ := zQ2 BK544.out) | ((with_reducible refine gate_callee (f := 8) rfl ?_); refine goesL_ (some 13) rfl rfl Tryz.func8 (by kernel_rfl) rfl #[.agg #[.slice A0_0 l0_0.length c0_0, .slice A0_1 l0_1.length c0_1]] rfl zm ?_; (with_reducible refine (laws_toPuzzle.calls k _ _ l0_0 _ _ l0_1 t546 t549 _ ?side1 ?side2 ?side3 ?side4 A7.out).mono ?_); (case side1 => repeat (first | exact (Kd.C_below HR0_0.out HB.out) | (with_reducible refine Kd.C_alloc ?_ _) | (with_reducible refine Kd.C_drewN ?_ _) | (with_reducible refine Kd.C_drew ?_))); (case side2 => exact HC0_0.out); (case side3 => repeat (first | exact (Kd.C_below HR0_1.out HB.out) | (with_reducible refine Kd.C_alloc ?_ _) | (with_reducible refine Kd.C_drewN ?_ _) | (with_reducible refine Kd.C_drew ?_))); (case side4 => exact HC0_1.out); rintro e w19 ⟨v547, v550, rfl, ho0, ho1, hb⟩; refine ⟨_, rfl, ?_⟩; have _ := aM (Kd.R_lower ho0 (below_size (zs GE544.out))); have _ := aM (Kd.S_lower ho1 (below_size (zs GE544.out))); have _ := aM (blk_below (g := gb544) (o := .cells #[.slice A0_0 l0_0.length c0_0, .slice A0_1 l0_1.length c0_1] 25 (0, 0)) (mB_ BK544.out) hb); have _ := aM (below_step (zs GE544.out) hb); clear BK544 HB; rename_i HO548 HO551 BK544 HB; (try clear hb); (try clear hb2); (try clear hk); (try clear hi); (try clear ho0); (try clear ho1); obtain ⟨Ao20, co20, eo20⟩ := Kd.R_slice HO548.out; subst eo20; obtain ⟨Ao21, co21, eo21⟩ := Kd.S_slice HO551.out; subst eo21) | ((with_reducible refine gate_callee (f := 7) rfl ?_); refine goesL_ (some 14) rfl rfl Tryz.func7 (by kernel_rfl) rfl #[.agg #[.slice Ao20 t546.length co20, .slice Ao21 t549.length co21]] rfl zm ?_; (with_reducible refine (spec_PuzzleText.calls k _ _ t546 _ _ t549 t552 _ ?side1 ?side2 ?side3 ?side4 A8.out).mono ?_); (case side1 => exact zc HO548.out); (case side2 => exact (Kd.R_reads' HO548.out).2.1); (case side3 => repeat (first | exact (Kd.S_reads' HO551.out).2.2 | (with_reducible refine Kd.C_alloc ?_ _) | (with_reducible refine Kd.C_drewN ?_ _) | (with_reducible refine Kd.C_drew ?_))); (case side4 => exact (Kd.S_reads' HO551.out).2.1); rintro e w22 ⟨rfl, hb⟩; refine ⟨_, rfl, ?_⟩; have _ := aM (Kd.R_below (mR_ HO548.out) hb); have _ := aM (Kd.S_below (mS_ HO551.out) hb); have _ := aM (blk_below (g := gb544) (o := .cells #[.slice A0_0 l0_0.length c0_0, .slice A0_1 l0_1.length c0_1] 25 (0, 0)) (mB_ BK544.out) hb); have _ := aM (below_step (zs GE544.out) hb); clear HO548 HO551 BK544 HB; rename_i HO548 HO551 BK544 HB; (try clear hb); (try clear hb2); (try clear hk); (try clear hi); obtain ⟨hcz23_0, hcz23_1, hfz23_0, hfz23_1⟩ := zQ2 BK544.out) | ((with_reducible refine gate_callee (f := 8) rfl ?_); refine goesL_ (some 16) rfl rfl Tryz.func8 (by kernel_rfl) rfl #[.agg #[.slice A0_0 l0_0.length c0_0, .slice A0_1 l0_1.length c0_1]] rfl zm ?_; (with_reducible refine (laws_toPuzzle.calls k _ _ l0_0 _ _ l0_1 t553 t556 _ ?side1 ?side2 ?side3 ?side4 A9.out).mono ?_); (case side1 => repeat (first | exact (Kd.C_below HR0_0.out HB.out) | (with_reducible refine Kd.C_alloc ?_ _) | (with_reducible refine Kd.C_drewN ?_ _) | (with_reducible refine Kd.C_drew ?_))); (case side2 => exact HC0_0.out); (case side3 => repeat (first | exact (Kd.C_below HR0_1.out HB.out) | (with_reducible refine Kd.C_alloc ?_ _) | (with_reducible refine Kd.C_drewN ?_ _) | (with_reducible refine Kd.C_drew ?_))); (case side4 => exact HC0_1.out); rintro e w24 ⟨v554, v557, rfl, ho0, ho1, hb⟩; refine ⟨_, rfl, ?_⟩; have _ := aM (Kd.R_elder' (mR_ HO548.out) (Kd.R_base ho0) hb); have _ := aM (Kd.S_mono (Kd.S_told (Kd.S_told (Kd.S_old (mS_ HO551.out) hb) (Kd.R_base ho0)) (Kd.S_base ho1)) (fun _ h_ => h_.1)); have _ := aM (Kd.R_lower (Kd.R_new' ho0 (Kd.R_lt (mR_ HO548.out))) (below_size (zs GE544.out))); have _ := aM (Kd.S_lower (Kd.S_new' (Kd.S_new' ho1 (Kd.R_lt (mR_ HO548.out))) (Kd.S_lt (mS_ HO551.out))) (below_size (zs GE544.out))); have _ := aM (blk_below (g := gb544) (o := .cells #[.slice A0_0 l0_0.length c0_0, .slice A0_1 l0_1.length c0_1] 25 (0, 0)) (mB_ BK544.out) hb); have _ := aM (below_step (zs GE544.out) hb); clear HO548 HO551 BK544 HB; rename_i HO548 HO551 HO555 HO558 BK544 HB; (try clear hb); (try clear hb2); (try clear hk); (try clear hi); (try clear ho0); (try clear ho1)) | ((with_reducible refine gate_dst (N := 5) rfl ?_); refine zx 5 #[.slice none 0 0, .slice none 0 0] 31 ?_; intro gb559 hg w25 hbox hb; have _ := aM (Kd.R_below (mR_ HO548.out) hb); have _ := aM (Kd.S_below (mS_ HO551.out) hb); have _ := aM (Kd.R_below (mR_ HO555.out) hb); have _ := aM (Kd.S_below (mS_ HO558.out) hb); have _ := aM (blk_below (g := gb544) (o := .cells #[.slice A0_0 l0_0.length c0_0, .slice A0_1 l0_1.length c0_1] 25 (0, 0)) (mB_ BK544.out) hb); have _ := aM (below_step (zs GE544.out) hb); have _ := aM (hbox); have _ := aM ((zf GE544.out : w.heap.size ≤ gb559)); have _ := aM ((zf GE544.out : w.heap.size ≤ gb559)); have _ := aM ((zl BK544.out : gb544 ≠ gb559)); have _ := aM ((zn BK544.out : gb559 ≠ gb544)); clear HO548 HO551 HO555 HO558 BK544 HB; rename_i HO548 HO551 HO555 HO558 BK544 HB BK559 GW559 GE559 NB544_559 NB559_544; clear hb hbox hg; obtain ⟨Ao26, co26, eo26⟩ := Kd.R_slice HO555.out; subst eo26; have hnb27 := NB559_544.out; have hnc27 := NB544_559.out; obtain ⟨hcz28_0, hcz28_1, hfz28_0, hfz28_1⟩ := zQ2 BK559.out; obtain ⟨Ao29, co29, eo29⟩ := Kd.S_slice HO558.out; subst eo29) | ((with_reducible refine gate_callee (f := 9) rfl ?_); refine goesL_ (some 18) rfl rfl Tryz.func9 (by kernel_rfl) rfl #[.agg #[.slice Ao26 t553.length co26, .slice Ao29 t556.length co29]] rfl zm ?_; (with_reducible refine (impl_PuzzleText.calls k _ _ t553 _ _ t556 t560 _ ?side1 ?side2 ?side3 ?side4 A10.out).mono ?_); (case side1 => refine (Kd.R_reads' (e := 82) (base := w.heap.size) (ok := fun k_ => (True ∧ some k_ ≠ (.slice Ao20 t546.length co20 : Value).ownBlock)) (n := t553.length) (c := co26) ?_).2.2; exact (by (with_reducible repeat (first | apply Kd.R_alloc | apply Kd.R_drewN | apply Kd.R_drew)); exact (Kd.R_mono (Kd.R_far (p := ⟨gb559, 1, none⟩) (Kd.R_far (p := ⟨gb559, 0, none⟩) (Kd.R_types HO555.out BK559.out (by decide)) (fun _ hk => hk.2) (.slice Ao26 t553.length co26)) (fun _ hk => hk.2) (.slice Ao29 t556.length co29)) (fun _ h_ => h_.1)))); (case side2 => exact (Kd.R_reads' HO555.out).2.1); (case side3 => refine (Kd.S_reads' (e := 50) (base := w.heap.size) (ok := fun k_ => ((some k_ ≠ (.slice Ao26 t553.length co26 : Value).ownBlock ∧ some k_ ≠ (.slice Ao20 t546.length co20 : Value).ownBlock) ∧ some k_ ≠ (.slice Ao21 t549.length co21 : Value).ownBlock)) (n := t556.length) (c := co29) ?_).2.2; exact (by (with_reducible repeat (first | apply Kd.S_alloc | apply Kd.S_drewN | apply Kd.S_drew)); exact (Kd.S_mono (Kd.S_far (p := ⟨gb559, 1, none⟩) (Kd.S_far (p := ⟨gb559, 0, none⟩) (Kd.S_types HO558.out BK559.out (by decide)) (fun _ hk => hk.2) (.slice Ao26 t553.length co26)) (fun _ hk => hk.2) (.slice Ao29 t556.length co29)) (fun _ h_ => h_.1)))); (case side4 => exact (Kd.S_reads' HO558.out).2.1); rintro e w30 ⟨rfl, hb⟩; refine ⟨_, rfl, ?_⟩; have _ := aM (Kd.R_below (by (with_reducible repeat (first | apply Kd.R_alloc | apply Kd.R_drewN | apply Kd.R_drew)); exact (Kd.R_mono (Kd.R_far (p := ⟨gb559, 1, none⟩) (Kd.R_far (p := ⟨gb559, 0, none⟩) (Kd.R_types HO548.out BK559.out (by decide)) (fun _ hk => hk.2) (.slice Ao26 t553.length co26)) (fun _ hk => hk.2) (.slice Ao29 t556.length co29)) (fun _ h_ => h_.1))) hb); have _ := aM (Kd.S_below (by (with_reducible repeat (first | apply Kd.S_alloc | apply Kd.S_drewN | apply Kd.S_drew)); exact (Kd.S_mono (Kd.S_far (p := ⟨gb559, 1, none⟩) (Kd.S_far (p := ⟨gb559, 0, none⟩) (Kd.S_types HO551.out BK559.out (by decide)) (fun _ hk => hk.2) (.slice Ao26 t553.length co26)) (fun _ hk => hk.2) (.slice Ao29 t556.length co29)) (fun _ h_ => h_.1))) hb); have _ := aM (Kd.R_below (by (with_reducible repeat (first | apply Kd.R_alloc | apply Kd.R_drewN | apply Kd.R_drew)); exact (Kd.R_mono (Kd.R_far (p := ⟨gb559, 1, none⟩) (Kd.R_far (p := ⟨gb559, 0, none⟩) (Kd.R_types HO555.out BK559.out (by decide)) (fun _ hk => hk.2) (.slice Ao26 t553.length co26)) (fun _ hk => hk.2) (.slice Ao29 t556.length co29)) (fun _ h_ => h_.1))) hb); have _ := aM (Kd.S_below (by (with_reducible repeat (first | apply Kd.S_alloc | apply Kd.S_drewN | apply Kd.S_drew)); exact (Kd.S_mono (Kd.S_far (p := ⟨gb559, 1, none⟩) (Kd.S_far (p := ⟨gb559, 0, none⟩) (Kd.S_types HO558.out BK559.out (by decide)) (fun _ hk => hk.2) (.slice Ao26 t553.length co26)) (fun _ hk => hk.2) (.slice Ao29 t556.length co29)) (fun _ h_ => h_.1))) hb); have _ := aM (blk_below (g := gb544) (o := .cells #[.slice A0_0 l0_0.length c0_0, .slice A0_1 l0_1.length c0_1] 25 (0, 0)) (by (with_reducible repeat (first | refine blk_drewN ?_ _ | refine blk_drew ?_ | refine blk_alloc ?_ _)); refine blk_far ?_ NB544_559.out _; (with_reducible repeat (first | refine blk_drewN ?_ _ | refine blk_drew ?_ | refine blk_alloc ?_ _)); refine blk_far ?_ NB544_559.out _; (with_reducible repeat (first | refine blk_drewN ?_ _ | refine blk_drew ?_ | refine blk_alloc ?_ _)); exact BK544.out) hb); have _ := aM (blk_below (g := gb559) (o := .cells #[.slice Ao26 t553.length co26, .slice Ao29 t556.length co29] 31 (0, 0)) (by (with_reducible repeat (first | refine blk_drewN ?_ _ | refine blk_drew ?_ | refine blk_alloc ?_ _)); refine blk_put (cs := #[.slice Ao26 t553.length co26, .slice none 0 0]) ?_ 1 _ rfl; (with_reducible repeat (first | refine blk_drewN ?_ _ | refine blk_drew ?_ | refine blk_alloc ?_ _)); refine blk_put (cs := #[.slice none 0 0, .slice none 0 0]) ?_ 0 _ rfl; (with_reducible repeat (first | refine blk_drewN ?_ _ | refine blk_drew ?_ | refine blk_alloc ?_ _)); exact BK559.out) hb); have _ := aM (below_step (zt GE544.out GE559.out) hb); clear HO548 HO551 HO555 HO558 BK544 BK559 HB; rename_i HO548 HO551 HO555 HO558 BK544 BK559 HB; (try clear hb); (try clear hb2); (try clear hk); (try clear hi)))
 have _ := aM (Kd.R_drew HO548.out)
 have _ := aM (Kd.S_drew HO551.out)
 have _ := aM (Kd.R_drew HO555.out)
 have _ := aM (Kd.S_drew HO558.out)
 have _ := aM (blk_drew BK544.out)
 have _ := aM (blk_drew BK559.out)
 have _ := aM (below_drew1 HB.out)
 clear HO548
 clear HO551
 clear HO555
 clear HO558
 clear BK544
 clear BK559
 clear HB
 rename_i HO548 HO551 HO555 HO558 BK544 BK559 HB
 refine start_ (n := 5) (S := fun w' => w'.cell? ⟨gb559, 0, none⟩ = some (.slice Ao26 t553.length co26) ∧ w'.cell? ⟨gb559, 1, none⟩ = some (.slice Ao29 t556.length co29) ∧ w'.cell? ⟨gb544, 0, none⟩ = some (.slice A0_0 l0_0.length c0_0) ∧ w'.cell? ⟨gb544, 1, none⟩ = some (.slice A0_1 l0_1.length c0_1)) (ds := []) #[false, false, false, false, false] (by kernel_rfl) rfl rfl ⟨(blk_cell BK559.out 0).trans rfl, (blk_cell BK559.out 1).trans rfl, (blk_cell BK544.out 0).trans rfl, (blk_cell BK544.out 1).trans rfl⟩ (fun hHeld => ?_)
 generalize w30.drew = w31 at HO548 HO551 HO555 HO558 BK544 BK559 HB hHeld ⊢
 refine take_ (i := 0) (N := some 22) (v := ?_) (a' := ?_) #[true, false, false, false, false] rfl rfl (by kernel_rfl) (fun _ _ _ h => h) (Or.inl ⟨by rfl, ?_⟩) hHeld ?_ ?_
 rotate_left
 ·rintro w' ⟨s0, s1, s2, s3⟩
  go_simp
  with_reducible rfl
 rotate_left
 ·simp only [Act.put, xA, xB, xC, i64_w, i32_w]
  rfl
 refine take_ (i := 1) (N := some 23) (v := ?_) (a' := ?_) #[true, true, false, false, false] rfl rfl (by kernel_rfl) (fun _ _ _ h => h) (Or.inl ⟨by rfl, ?_⟩) hHeld ?_ ?_
 rotate_left
 ·rintro w' ⟨s0, s1, s2, s3⟩
  go_simp
  with_reducible rfl
 rotate_left
 ·simp only [Act.put, xA, xB, xC, i64_w, i32_w]
  rfl
 refine one_ (i := 2) (N := some 24) #[true, true, true, false, false] rfl rfl (by kernel_rfl) (by decide) (fun K hK => ?_)
 refine goes_ Tryz.func8 (by kernel_rfl) rfl #[.agg #[.slice A0_0 l0_0.length c0_0, .slice A0_1 l0_1.length c0_1]] (by rfl) rfl rfl zm ?_
 with_reducible refine (laws_toPuzzle.calls k _ _ l0_0 _ _ l0_1 t561 t564 _ ?side1 ?side2 ?side3 ?side4 A12.out).mono ?_
 (case side1 => repeat (first | exact (Kd.C_below HR0_0.out HB.out) | (with_reducible refine Kd.C_alloc ?_ _) | (with_reducible refine Kd.C_drewN ?_ _) | (with_reducible refine Kd.C_drew ?_)))
 (case side2 => exact HC0_0.out)
 (case side3 => repeat (first | exact (Kd.C_below HR0_1.out HB.out) | (with_reducible refine Kd.C_alloc ?_ _) | (with_reducible refine Kd.C_drewN ?_ _) | (with_reducible refine Kd.C_drew ?_)))
 (case side4 => exact HC0_1.out)
 rintro e w32 ⟨v562, v565, rfl, ho0, ho1, hb⟩
 refine ⟨_, rfl, ?_⟩
 have _ := aM (Kd.R_elder' (mR_ HO548.out) (Kd.R_base ho0) hb)
 have _ := aM (Kd.S_mono (Kd.S_told (Kd.S_told (Kd.S_old (mS_ HO551.out) hb) (Kd.R_base ho0)) (Kd.S_base ho1)) (fun _ h_ => h_.1))
 have _ := aM (Kd.R_elder' (mR_ HO555.out) (Kd.R_base ho0) hb)
 have _ := aM (Kd.S_mono (Kd.S_told (Kd.S_told (Kd.S_old (mS_ HO558.out) hb) (Kd.R_base ho0)) (Kd.S_base ho1)) (fun _ h_ => h_.1))
 have _ := aM (Kd.R_lower (Kd.R_new' (Kd.R_new' ho0 (Kd.R_lt (mR_ HO548.out))) (Kd.R_lt (mR_ HO555.out))) (below_size (zt GE544.out GE559.out)))
 have _ := aM (Kd.S_lower (Kd.S_new' (Kd.S_new' (Kd.S_new' (Kd.S_new' ho1 (Kd.R_lt (mR_ HO548.out))) (Kd.S_lt (mS_ HO551.out))) (Kd.R_lt (mR_ HO555.out))) (Kd.S_lt (mS_ HO558.out))) (below_size (zt GE544.out GE559.out)))
 have _ := aM (blk_below (g := gb544) (o := .cells #[.slice A0_0 l0_0.length c0_0, .slice A0_1 l0_1.length c0_1] 25 (0, 0)) (mB_ BK544.out) hb)
 have _ := aM (blk_below (g := gb559) (o := .cells #[.slice Ao26 t553.length co26, .slice Ao29 t556.length co29] 31 (0, 0)) (mB_ BK559.out) hb)
 have _ := aM (below_step (zt GE544.out GE559.out) hb)
 clear HO548
 clear HO551
 clear HO555
 clear HO558
 clear BK544
 clear BK559
 clear HB
 rename_i HO548 HO551 HO555 HO558 HO563 HO566 BK544 BK559 HB
 (try clear hb)
 (try clear hb2)
 (try clear hk)
 (try clear hi)
 (try clear ho0)
 (try clear ho1)
 obtain ⟨Ao33, co33, eo33⟩ := Kd.R_slice HO563.out
 (first | subst eo33 | (injection eo33 with f1_ f2_ f3_; have f4_ := f1_.symm; have f5_ := f3_.symm; clear f1_ f2_ f3_; subst f4_; subst f5_))
 obtain ⟨Ao34, co34, eo34⟩ := Kd.S_slice HO566.out
 (first | subst eo34 | (injection eo34 with f1_ f2_ f3_; have f4_ := f1_.symm; have f5_ := f3_.symm; clear f1_ f2_ f3_; subst f4_; subst f5_))
 refine hK.out _ _ ⟨(blk_cell BK559.out 0).trans rfl, (blk_cell BK559.out 1).trans rfl, (blk_cell BK544.out 0).trans rfl, (blk_cell BK544.out 1).trans rfl⟩ (fun hHeld => ?_)
 clear hK K
 refine norm_ (a' := ?_) ?_ ?_
 rotate_left
 ·show Act.put _ (some 24) _ = _
  simp only [Act.put, xA, xB, xC, i64_w, i32_w]
  rfl
 refine one_ (i := 3) (N := some 25) #[true, true, true, true, false] rfl rfl (by kernel_rfl) (by decide) (fun K hK => ?_)
 refine goes_ Tryz.func10 (by kernel_rfl) rfl #[.agg #[.slice Ao26 t553.length co26, .slice Ao29 t556.length co29], .agg #[.slice Ao33 t561.length co33, .slice Ao34 t564.length co34]] (by rfl) rfl rfl zm ?_
 with_reducible refine (laws_eqPuzzle.calls k _ _ t553 _ _ t556 _ _ t561 _ _ t564 true _ ?side1 ?side2 ?side3 ?side4 ?side5 ?side6 ?side7 ?side8 A13.out).mono ?_
 (case side1 => exact zc HO555.out)
 (case side2 => exact (Kd.R_reads' HO555.out).2.1)
 (case side3 => repeat (first | exact (Kd.S_reads' HO558.out).2.2 | (with_reducible refine Kd.C_alloc ?_ _) | (with_reducible refine Kd.C_drewN ?_ _) | (with_reducible refine Kd.C_drew ?_)))
 (case side4 => exact (Kd.S_reads' HO558.out).2.1)
 (case side5 => exact zc HO563.out)
 (case side6 => exact (Kd.R_reads' HO563.out).2.1)
 (case side7 => repeat (first | exact (Kd.S_reads' HO566.out).2.2 | (with_reducible refine Kd.C_alloc ?_ _) | (with_reducible refine Kd.C_drewN ?_ _) | (with_reducible refine Kd.C_drew ?_)))
 (case side8 => exact (Kd.S_reads' HO566.out).2.1)
 rintro e w35 ⟨rfl, hb⟩
 refine ⟨_, rfl, ?_⟩
 have _ := aM (Kd.R_below (mR_ HO548.out) hb)
 have _ := aM (Kd.S_below (mS_ HO551.out) hb)
 have _ := aM (Kd.R_below (mR_ HO555.out) hb)
 have _ := aM (Kd.S_below (mS_ HO558.out) hb)
 have _ := aM (Kd.R_below (mR_ HO563.out) hb)
 have _ := aM (Kd.S_below (mS_ HO566.out) hb)
 have _ := aM (blk_below (g := gb544) (o := .cells #[.slice A0_0 l0_0.length c0_0, .slice A0_1 l0_1.length c0_1] 25 (0, 0)) (mB_ BK544.out) hb)
 have _ := aM (blk_below (g := gb559) (o := .cells #[.slice Ao26 t553.length co26, .slice Ao29 t556.length co29] 31 (0, 0)) (mB_ BK559.out) hb)
 have _ := aM (below_step (zt GE544.out GE559.out) hb)
 clear HO548
 clear HO551
 clear HO555
 clear HO558
 clear HO563
 clear HO566
 clear BK544
 clear BK559
 clear HB
 rename_i HO548 HO551 HO555 HO558 HO563 HO566 BK544 BK559 HB
 (try clear hb)
 (try clear hb2)
 (try clear hk)
 (try clear hi)
 refine hK.out _ _ ⟨(blk_cell BK559.out 0).trans rfl, (blk_cell BK559.out 1).trans rfl, (blk_cell BK544.out 0).trans rfl, (blk_cell BK544.out 1).trans rfl⟩ (fun hHeld => ?_)
 clear hK K
 refine norm_ (a' := ?_) ?_ ?_
 rotate_left
 ·show Act.put _ (some 25) _ = _
  simp only [Act.put, xA, xB, xC, i64_w, i32_w]
  rfl
 refine pure_ (i := 4) (N := some 26) (v := ?_) (a' := ?_) #[true, true, true, true, true] rfl rfl (by kernel_rfl) (fun _ _ _ h => h) (Or.inl ⟨by rfl, ?_⟩) ?_ ?_
 rotate_left
 ·intro w'
  go_simp
  with_reducible rfl
 rotate_left
 ·simp only [Act.put, xA, xB, xC, i64_w, i32_w]
  rfl
 refine done_ (by kernel_rfl) ?_
 try go_wp2
 go_ret
 exact ⟨zw, zt GE544.out GE559.out⟩
end Go.Proofs.YtipafadbhmngnaaGreatDoor.F
end
section
namespace Go.Proofs.YtipafadbhmngnaaGreatDoor.Open
open Go.ChangeShapes Go.WideShapes Go.Deep Go.RowKit Go.Proofs.YtipafadbhmngnaaGreatDoorW.PrintWords
def Opens {α : Type} (P : Program) (d : Kd α) (t : TypeId) (V : α → Prop) : Prop :=
  ∀ (H : Type) (enc : TypeId × Value → H) (w : World) (base : Nat) (spare : Nat → Bool) (held : Bool) (fuel : Nat) (cs : List Value) (x : DataW H × List MemPlace),
    DataW.trod enc P w base spare held fuel t cs = some x → ∃ a : α, d.K w a cs ∧ V a
theorem Opens.int {P : Program} {t : TypeId} {k : IntKind} (ht : P.underlying t = some (.int k)) : Opens P (Kd.int k) t (fun a => (Lit.int k a).wf = true) := by
  intro H enc w base spare held fuel cs x h
  obtain ⟨n, hcs, _, hw⟩ := DataW.trod_int ht h
  exact ⟨n, hcs, hw⟩
theorem Opens.bool {P : Program} {t : TypeId} (ht : P.underlying t = some .bool) : Opens P Kd.bool t (fun _ => True) := by
  intro H enc w base spare held fuel cs x h
  obtain ⟨b, hcs, _⟩ := DataW.trod_bool ht h
  exact ⟨b, hcs, trivial⟩
theorem Opens.slice {α : Type} [Inhabited α] {P : Program} {t e : TypeId} {d : Kd α} {V : α → Prop} (ht : P.underlying t = some (.slice e)) (hsz : P.cellsOf e = d.sz) (ho : Opens P d e V) :
    Opens P (Kd.slice e d) t (fun l => l.length ≤ 9223372036854775807 ∧ ∀ a ∈ l, V a) := by
  intro H enc w base spare held fuel cs x h
  rcases open_slice ht h with ⟨rfl, _⟩ | ⟨a, len, cap, m, n, D, Pl, rfl, hb, hl, hm, hmm, _, hi⟩
  · exact ⟨[], ⟨none, 0, rfl, Nat.le_refl _, rfl, by simp, fun hp => absurd hp (by simp)⟩, by simp, by simp⟩
  · have hlm : len ≤ m := by rw [hmm]; split <;> omega
    have hx : ∀ i, i < len → ∃ y : α, V y ∧ ∃ c : List Value, c.length = d.sz ∧ d.K w y c ∧ ∀ j u, c[j]? = some u → w.cell? (a.add (i * d.sz + j)) = some u := by
      intro i hil
      obtain ⟨cs', hc, ht'⟩ := hi i (by omega)
      obtain ⟨y, hk, hv⟩ := ho H enc w base spare held n cs' _ ht'
      obtain ⟨_, hcl, hat⟩ := World.cells?_some hc
      refine ⟨y, hv, cs', d.K_len hk, hk, fun j u hj => ?_⟩
      have hjl : j < cs'.length := (List.getElem?_eq_some_iff.1 hj).1
      have := hat j (by rw [hsz, ← d.K_len hk]; exact hjl)
      rw [Go.Deep.add_add, hsz] at this
      rw [this, hj]
    obtain ⟨f, hf⟩ := choose_lt hx
    have hlen : ((List.range len).map f).length = len := by simp
    refine ⟨(List.range len).map f, ⟨some a, cap, by rw [hlen], by rw [hlen]; exact hl, rfl, ?_, fun _ => ⟨a, rfl, fun j p hj => ?_⟩⟩, ?_⟩
    · rw [hlen]; unfold maxLen at hm; omega
    · have hjl : j < len := by
        have := (List.getElem?_eq_some_iff.1 hj).1
        rwa [hlen] at this
      have hp : f j = p := by
        rw [List.getElem?_map, List.getElem?_range hjl] at hj
        simpa using hj
      obtain ⟨_, c, h1, h2, h3⟩ := hf j hjl
      rw [hp] at h2
      exact ⟨c, h1, h2, h3⟩
    · refine ⟨by rw [hlen]; unfold maxLen at hm; omega, fun y hy => ?_⟩
      obtain ⟨i, hi', rfl⟩ := List.mem_map.1 hy
      exact (hf i (List.mem_range.1 hi')).1
theorem cut2 {cs : List Value} {n m : Nat} (h : cs.length = n + m) : cs = (cs.drop 0).take n ++ (cs.drop n).take m := by
  rw [List.drop_zero, List.take_of_length_le (l := cs.drop n) (by rw [List.length_drop]; omega), List.take_append_drop]
theorem Opens.struct2 {α β γ : Type} {P : Program} {t : TypeId} {f0 f1 : Field} {d0 : Kd α} {d1 : Kd β} {V0 : α → Prop} {V1 : β → Prop} (g : γ → α × β) (g' : α → β → γ) (hg : ∀ x y, g (g' x y) = (x, y))
    (ht : P.underlying t = some (.struct #[f0, f1])) (o0 : f0.offset = 0) (o1 : f1.offset = d0.sz) (s0 : P.cellsOf f0.type = d0.sz) (s1 : P.cellsOf f1.type = d1.sz) (sz : P.cellsOf t = d0.sz + d1.sz)
    (h0 : Opens P d0 f0.type V0) (h1 : Opens P d1 f1.type V1) : Opens P (Kd.iso (Kd.pair d0 d1) g) t (fun a => V0 (g a).1 ∧ V1 (g a).2) := by
  intro H enc w base spare held fuel cs x h
  obtain ⟨y0, y1, n, _, hl, t0, t1⟩ := trod_struct2 ht h
  rw [o0, s0] at t0
  rw [o1, s1] at t1
  obtain ⟨x0, k0, v0⟩ := h0 _ _ _ _ _ _ _ _ _ t0
  obtain ⟨x1, k1, v1⟩ := h1 _ _ _ _ _ _ _ _ _ t1
  refine ⟨g' x0 x1, ?_, ?_⟩
  · show ∃ c0 c1, cs = c0 ++ c1 ∧ d0.K w (g (g' x0 x1)).1 c0 ∧ d1.K w (g (g' x0 x1)).2 c1
    rw [hg]
    exact ⟨_, _, cut2 (by rw [hl, sz]), k0, k1⟩
  · simp only [hg]; exact ⟨v0, v1⟩
theorem Opens.struct3 {α β γ δ : Type} {P : Program} {t : TypeId} {f0 f1 f2 : Field} {d0 : Kd α} {d1 : Kd β} {d2 : Kd γ} {V0 : α → Prop} {V1 : β → Prop} {V2 : γ → Prop} (g : δ → α × β × γ) (g' : α → β → γ → δ) (hg : ∀ x y z, g (g' x y z) = (x, y, z))
    (ht : P.underlying t = some (.struct #[f0, f1, f2])) (o0 : f0.offset = 0) (o1 : f1.offset = d0.sz) (o2 : f2.offset = d0.sz + d1.sz) (s0 : P.cellsOf f0.type = d0.sz) (s1 : P.cellsOf f1.type = d1.sz) (s2 : P.cellsOf f2.type = d2.sz) (sz : P.cellsOf t = d0.sz + (d1.sz + d2.sz))
    (h0 : Opens P d0 f0.type V0) (h1 : Opens P d1 f1.type V1) (h2 : Opens P d2 f2.type V2) : Opens P (Kd.iso (Kd.pair d0 (Kd.pair d1 d2)) g) t (fun a => V0 (g a).1 ∧ V1 (g a).2.1 ∧ V2 (g a).2.2) := by
  intro H enc w base spare held fuel cs x h
  obtain ⟨y0, y1, y2, n, _, hl, t0, t1, t2⟩ := trod_struct3 ht h
  rw [o0, s0] at t0
  rw [o1, s1] at t1
  rw [o2, s2] at t2
  obtain ⟨x0, k0, v0⟩ := h0 _ _ _ _ _ _ _ _ _ t0
  obtain ⟨x1, k1, v1⟩ := h1 _ _ _ _ _ _ _ _ _ t1
  obtain ⟨x2, k2, v2⟩ := h2 _ _ _ _ _ _ _ _ _ t2
  refine ⟨g' x0 x1 x2, ?_, ?_⟩
  · show ∃ c0 c1, cs = c0 ++ c1 ∧ d0.K w (g (g' x0 x1 x2)).1 c0 ∧ ∃ c2 c3, c1 = c2 ++ c3 ∧ d1.K w (g (g' x0 x1 x2)).2.1 c2 ∧ d2.K w (g (g' x0 x1 x2)).2.2 c3
    rw [hg]
    refine ⟨_, _, cut2 (n := d0.sz) (m := d1.sz + d2.sz) (by rw [hl, sz]), k0, (cs.drop d0.sz).take d1.sz, (cs.drop (d0.sz + d1.sz)).take d2.sz, ?_, k1, k2⟩
    rw [← List.drop_drop, List.take_of_length_le (l := cs.drop d0.sz) (by rw [List.length_drop]; omega)]
    have := cut2 (cs := cs.drop d0.sz) (n := d1.sz) (m := d2.sz) (by rw [List.length_drop]; omega)
    rwa [List.drop_zero] at this
  · simp only [hg]; exact ⟨v0, v1, v2⟩
theorem arg_open {α : Type} {P : Program} {t : TypeId} {d : Kd α} {V : α → Prop} (ho : Opens P d t V) {H : Type} {enc : TypeId × Value → H} {w : World} {base : Nat} {spare : Nat → Bool} {held : Bool} {v : Value} {x : DataW H} {p : List MemPlace}
    (h : DataW.Trod enc P w base spare held t v x p) : ∃ a : α, d.K w a v.cells.toList ∧ V a := by
  obtain ⟨fuel, hf⟩ := h
  exact ho _ _ _ _ _ _ _ _ _ hf
end Go.Proofs.YtipafadbhmngnaaGreatDoor.Open
end
section
namespace Go.Proofs.YtipafadbhmngnaaGreatDoor.F
open Go.RowKit Go.Proofs.YtipafadbhmngnaaGreatDoorW.PrintWords Go.Proofs.YtipafadbhmngnaaGreatDoor.Open
instance : Inhabited S84 := ⟨⟨default, default⟩⟩
def V84 : S84 → Prop := fun a => (fun a => (Lit.int .i64 a).wf = true) a.f0 ∧ (fun a => (Lit.int .i64 a).wf = true) a.f1
theorem O84 : Opens Tryz.prog k84 84 V84 :=
  Opens.struct2 (fun x : S84 => (x.f0, x.f1)) (fun a b => ⟨a, b⟩) (fun _ _ => rfl) Tryz.underlying84 rfl rfl (by kernel_rfl) (by kernel_rfl) (by kernel_rfl) (Opens.int Tryz.underlying2) (Opens.int Tryz.underlying2)
instance : Inhabited S76 := ⟨⟨default, default, default⟩⟩
def V76 : S76 → Prop := fun a => (fun l => l.length ≤ 9223372036854775807 ∧ ∀ a ∈ l, V84 a) a.f0 ∧ (fun a => (Lit.int .i64 a).wf = true) a.f1 ∧ (fun _ => True) a.f2
theorem O76 : Opens Tryz.prog k76 76 V76 :=
  Opens.struct3 (fun x : S76 => (x.f0, x.f1, x.f2)) (fun a b c => ⟨a, b, c⟩) (fun _ _ _ => rfl) Tryz.underlying76 rfl rfl rfl (by kernel_rfl) (by kernel_rfl) (by kernel_rfl) (by kernel_rfl) (Opens.slice Tryz.underlying22 (by kernel_rfl) O84) (Opens.int Tryz.underlying2) (Opens.bool Tryz.underlying4)
instance : Inhabited S25 := ⟨⟨default, default⟩⟩
def V25 : S25 → Prop := fun a => (fun l => l.length ≤ 9223372036854775807 ∧ ∀ a ∈ l, V84 a) a.f0 ∧ (fun l => l.length ≤ 9223372036854775807 ∧ ∀ a ∈ l, V76 a) a.f1
theorem st25_open {w : World} {x : S25} {cs : List Value} (h : k25.K w x cs) : ∃ (A0 : Option Addr) (c0 : Nat) (A1 : Option Addr) (c1 : Nat), cs = [.slice A0 x.f0.length c0, .slice A1 x.f1.length c1] ∧ x.f0.length ≤ c0 ∧ Kd.C k84 w A0 x.f0.length x.f0 ∧ x.f1.length ≤ c1 ∧ Kd.C k76 w A1 x.f1.length x.f1 := by
  obtain ⟨_, _, rfl, h0, h1⟩ := h
  obtain ⟨A0, c0, rfl, l0, r0⟩ := h0
  obtain ⟨A1, c1, rfl, l1, r1⟩ := h1
  exact ⟨A0, c0, A1, c1, rfl, l0, r0, l1, r1⟩
theorem O25 : Opens Tryz.prog k25 25 V25 :=
  Opens.struct2 (fun x : S25 => (x.f0, x.f1)) (fun a b => ⟨a, b⟩) (fun _ _ => rfl) Tryz.underlying25 rfl rfl (by kernel_rfl) (by kernel_rfl) (by kernel_rfl) (Opens.slice Tryz.underlying22 (by kernel_rfl) O84) (Opens.slice Tryz.underlying23 (by kernel_rfl) O76)
end Go.Proofs.YtipafadbhmngnaaGreatDoor.F
end
section
namespace Go.Proofs.YtipafadbhmngnaaGreatDoor.L
open Go.RowKit Go.Proofs.YtipafadbhmngnaaGreatDoorW.PrintWords
theorem Ev.pos {α : Type} {c : Prop} [Decidable c] {f g : Nat → Option α} {r : α} (h : c) (e : Ev f r) : Ev (fun k => if c then f k else g k) r := by
  obtain ⟨K, e⟩ := e
  exact ⟨K, fun k hk => (if_pos h).trans (e k hk)⟩
theorem Ev.neg {α : Type} {c : Prop} [Decidable c] {f g : Nat → Option α} {r : α} (h : ¬ c) (e : Ev g r) : Ev (fun k => if c then f k else g k) r := by
  obtain ⟨K, e⟩ := e
  exact ⟨K, fun k hk => (if_neg h).trans (e k hk)⟩
theorem Ev.if_ {α : Type} {c : Prop} [Decidable c] {f g : Nat → Option α} {r s : α} (h : c → Ev f r) (h' : ¬ c → Ev g s) : Ev (fun k => if c then f k else g k) (if c then r else s) := by
  by_cases hc : c
  · rw [if_pos hc]; exact Ev.pos hc (h hc)
  · rw [if_neg hc]; exact Ev.neg hc (h' hc)
theorem Ev.of_eq {α : Type} {g : Nat → Option α} {r s : α} (h : Ev g r) (e : r = s) : Ev g s := e ▸ h
theorem Ev.bind0 {α β : Type} {o : Option α} {f : Nat → α → Option β} {a : α} {r : β} (h : o = some a) (k : Ev (fun n => f n a) r) : Ev (fun n => o.bind (f n)) r := by
  subst h
  exact k
theorem Ev.succ {α : Type} {g : Nat → Option α} {r : α} (h : Ev (fun k => g (k + 1)) r) : Ev g r := by
  obtain ⟨K, h⟩ := h
  refine ⟨K + 1, fun n hn => ?_⟩
  obtain ⟨m, rfl⟩ : ∃ m, n = m + 1 := ⟨n - 1, by omega⟩
  exact h m (by omega)
theorem w64 {n : Int} (h : -9223372036854775808 ≤ n) (h' : n ≤ 9223372036854775807) : wrap64 n = n := by
  unfold wrap64
  omega
theorem getD_at {α : Type} (pre suf : List α) (c d : α) : (pre ++ c :: suf).getD (pre.length : Int).toNat d = c := by
  simp [List.getD]
end Go.Proofs.YtipafadbhmngnaaGreatDoor.L
namespace Go.Proofs.YtipafadbhmngnaaGreatDoor.L
open Go.RowKit Go.Proofs.YtipafadbhmngnaaGreatDoorW.PrintWords
theorem loop_list {α σ ρ : Type} (xs : List α) (l : Nat → Int → σ → Option ρ) (g : List α → List α → σ → ρ) (Inv : List α → σ → Prop)
    (hn : ∀ s, Inv xs s → Ev (fun k => l (k + 1) (xs.length : Int) s) (g xs [] s))
    (hs : ∀ (pre : List α) (c : α) (suf : List α) (s : σ), xs = pre ++ c :: suf → Inv pre s → (∀ s', Inv (pre ++ [c]) s' → Ev (fun k => l k ((pre.length : Int) + 1) s') (g (pre ++ [c]) suf s')) → Ev (fun k => l (k + 1) (pre.length : Int) s) (g pre (c :: suf) s)) :
    ∀ s, Inv [] s → Ev (fun k => l k 0 s) (g [] xs s) := by
  have key : ∀ (suf pre : List α), xs = pre ++ suf → ∀ s, Inv pre s → Ev (fun k => l k (pre.length : Int) s) (g pre suf s) := by
    intro suf
    induction suf with
    | nil =>
      intro pre hx s hi
      rw [List.append_nil] at hx
      subst hx
      exact Ev.succ (hn s hi)
    | cons c suf ih =>
      intro pre hx s hi
      refine Ev.succ (hs pre c suf s hx hi fun s' hi' => ?_)
      have := ih (pre ++ [c]) (by rw [hx]; simp) s' hi'
      rw [List.length_append] at this
      exact this
  intro s hi
  exact key xs [] rfl s hi
end Go.Proofs.YtipafadbhmngnaaGreatDoor.L
end
section
namespace Go.Proofs.YtipafadbhmngnaaGreatDoor.L
open Go.RowKit Go.Proofs.YtipafadbhmngnaaGreatDoorW.PrintWords Go.Proofs.YtipafadbhmngnaaGreatDoorW.PrintLast Go.Proofs.YtipafadbhmngnaaGreatDoorW.PrintMore Go.Proofs.YtipafadbhmngnaaGreatDoor.F
set_option linter.unusedVariables false
set_option linter.unusedSimpArgs false
abbrev Cell := S82
abbrev LCell := S84
theorem in_eq (a b c : Int) : spec_l01In.f a b c = some (decide (b ≤ a ∧ a ≤ c)) := by
  unfold spec_l01In.f
  by_cases h : a ≥ b
  · rw [if_pos h]; simp [show b ≤ a from h]
  · rw [if_neg h]; simp [show ¬ b ≤ a from h]
theorem within_eq (a b c : Int) : impl_within.f a b c = some (decide (b ≤ a ∧ a ≤ c)) := by
  unfold impl_within.f
  by_cases h : a ≥ b
  · rw [if_pos h]; simp [show b ≤ a from h]
  · rw [if_neg h]; simp [show ¬ b ≤ a from h]
def ok1 (n : Int) : Prop := -100 ≤ n ∧ n ≤ 100
instance (n : Int) : Decidable (ok1 n) := by unfold ok1; infer_instance
def okC (c : Cell) : Prop := ok1 c.f0 ∧ ok1 c.f1
instance (c : Cell) : Decidable (okC c) := by unfold okC; infer_instance
def ltC (a b : Cell) : Prop := a.f1 < b.f1 ∨ a.f1 = b.f1 ∧ a.f0 < b.f0
instance (a b : Cell) : Decidable (ltC a b) := by unfold ltC; infer_instance
theorem isCoordinate_eq (n : Int) : impl_isCoordinate.f n = some (decide (ok1 n)) := by
  unfold impl_isCoordinate.f
  rw [within_eq]
  rfl
theorem l02Cell_eq (x y : Int) : spec_l02Cell.f x y = some (decide (ok1 x ∧ ok1 y)) := by
  unfold spec_l02Cell.f
  rw [in_eq, in_eq]
  simp only [Option.bind_some]
  by_cases h : -100 ≤ x ∧ x ≤ 100
  · have h' : ok1 x := h
    simp only [h, and_self, decide_true, if_true, true_and, h', ok1]
  · have h' : ¬ ok1 x := h
    simp [h, h']
theorem toCell_eq (x y : Int) : laws_toCell.f x y = some (x, y) := rfl
theorem eqCell_eq (a b c d : Int) : laws_eqCell.f a b c d = some (decide (a = c ∧ b = d)) := by
  unfold laws_eqCell.f
  by_cases h : a = c
  · by_cases h' : b = d <;> simp [h, h']
  · simp [h]
def small {α : Type} (l : List α) : Prop := l.length ≤ 4611686018427387904
theorem pre_lt {α : Type} {xs pre suf : List α} {c : α} (h : xs = pre ++ c :: suf) : ((pre.length : Int) < (xs.length : Int)) = True := by
  subst h; simp; omega
theorem pre_w {α : Type} {xs pre suf : List α} {c : α} (h : xs = pre ++ c :: suf) (hs : small xs) : wrap64 ((pre.length : Int) + 1) = (pre.length : Int) + 1 := by
  subst h
  unfold small at hs
  rw [List.length_append, List.length_cons] at hs
  exact w64 (by omega) (by omega)
theorem pre_0 {α : Type} (pre : List α) : (0 ≤ (pre.length : Int)) = True := by simp
theorem len_lt {α : Type} (xs : List α) : ((xs.length : Int) < (xs.length : Int)) = False := by simp
theorem at_pre {xs pre suf : List Cell} {c : Cell} (h : xs = pre ++ c :: suf) : rd_T82 xs (pre.length : Int) = c := by
  subst h; exact getD_at pre suf c _
theorem at_preL {xs pre suf : List LCell} {c : LCell} (h : xs = pre ++ c :: suf) : rd_T84 xs (pre.length : Int) = c := by
  subst h; exact getD_at pre suf c _
theorem eqCellS_ev (a : List Cell) (ha : small a) : Ev (fun k => laws_eqCellS.f k a a) true := by
  unfold laws_eqCellS.f
  refine Ev.pos rfl ?_
  refine loop_list a (fun k i (_ : Unit) => laws_eqCellS.l0 k a a i) (fun _ _ _ => true) (fun _ _ => True) ?_ ?_ () trivial
  · intro _ _
    simp only [laws_eqCellS.l0, len_lt, if_false]
    exact Ev.now _
  · intro pre c suf _ hx _ ih
    simp only [laws_eqCellS.l0, pre_lt hx, pre_0, if_true, at_pre hx, eqCell_eq, and_self, decide_true, Option.bind_some, pre_w hx ha]
    exact ih () trivial
def cellOf (c : LCell) : Cell := ⟨c.f0, c.f1⟩
theorem toCellS_ev (a : List LCell) (ha : a.length ≤ 1048576) : Ev (fun k => laws_toCellS.f k a) (a.map cellOf) := by
  have hs : small a := by unfold small; omega
  unfold laws_toCellS.f
  refine Ev.pos (by omega) (Ev.pos (by omega) ?_)
  have := loop_list a (fun k i (s : List Cell) => laws_toCellS.l0 k a s i) (fun _ suf s => s.take (a.length - suf.length) ++ suf.map cellOf) (fun pre s => s.length = a.length) ?_ ?_ (List.replicate a.length z82) (by simp)
  · refine Ev.of_eq this ?_
    simp
  · intro s hl
    simp only [laws_toCellS.l0, len_lt, if_false]
    refine Ev.of_eq (Ev.now _) ?_
    simp [List.take_of_length_le, hl]
  · intro pre c suf s hx hl ih
    have hlt : ((pre.length : Int) < (s.length : Int)) = True := by rw [hl]; exact pre_lt hx
    simp only [laws_toCellS.l0, pre_lt hx, pre_0, if_true, at_preL hx, toCell_eq, Option.bind_some, hlt, pre_w hx hs]
    refine Ev.of_eq (ih (s.set (pre.length : Int).toNat ⟨c.f0, c.f1⟩) (by simpa using hl)) ?_
    have hn : a.length = pre.length + (suf.length + 1) := by rw [hx]; simp
    have e1 : a.length - suf.length = pre.length + 1 := by omega
    have e2 : a.length - (c :: suf).length = pre.length := by simp; omega
    rw [e1, e2, Int.toNat_natCast, List.take_add_one, List.getElem?_set_self (by omega), List.take_set_of_le (Nat.le_refl _)]
    simp [cellOf]
theorem pre_len {α : Type} {xs pre suf : List α} {c : α} (h : xs = pre ++ c :: suf) : pre.length < xs.length := by
  subst h; simp
theorem szCellS_eq (a : List LCell) (n : Int) (h0 : 0 ≤ n) (h1 : n ≤ 1048576) (ha : a.length ≤ 9223372036854775807) : laws_szCellS.f a n = some (if n - (a.length : Int) < 0 then -1 else n - (a.length : Int)) := by
  unfold laws_szCellS.f
  rw [w64 (by omega) (by omega)]
  split <;> rfl
theorem at_preI {xs pre suf : List Int} {c : Int} (h : xs = pre ++ c :: suf) : rd xs (pre.length : Int) = c := by
  subst h; exact getD_at pre suf c _
def cmpI (a b : Int) : Int := if a < b then -1 else if a > b then 1 else 0
theorem compare_eq (a b : Int) : cmp_Compare_int64.f a b = some (cmpI a b) := by
  unfold cmp_Compare_int64.f cmp_isNaN_int64.f cmpI
  simp only [bne_self_eq_false, Option.bind_some, Bool.false_eq_true, if_false]
  split
  · rfl
  · split <;> rfl
end Go.Proofs.YtipafadbhmngnaaGreatDoor.L
end
section
namespace Go.Proofs.YtipafadbhmngnaaGreatDoor.L
open Go.RowKit Go.Proofs.YtipafadbhmngnaaGreatDoorW.PrintWords Go.Proofs.YtipafadbhmngnaaGreatDoorW.PrintLast Go.Proofs.YtipafadbhmngnaaGreatDoorW.PrintMore Go.Proofs.YtipafadbhmngnaaGreatDoor.F
set_option linter.unusedVariables false
set_option linter.unusedSimpArgs false
theorem l02Less_eq (a b c d : Int) : spec_l02Less.f a b c d = some (decide (b < d ∨ b = d ∧ a < c)) := by
  unfold spec_l02Less.f
  by_cases h : b < d
  · simp [h]
  · by_cases h' : b = d <;> simp [h, h']
    
def cmpC (a b : Cell) : Int := if cmpI a.f1 b.f1 = 0 then cmpI a.f0 b.f0 else cmpI a.f1 b.f1
theorem compareCells_eq (a b : Cell) : impl_compareCells.f a.f0 a.f1 b.f0 b.f1 = some (cmpC a b) := by
  unfold impl_compareCells.f cmpC
  simp only [compare_eq, Option.bind_some]
  split <;> rfl
theorem cmpC_lt {a b : Cell} : cmpC a b < 0 ↔ ltC a b := by
  unfold cmpC cmpI ltC
  repeat' split
  all_goals constructor <;> intro h <;> omega
theorem cmpC_ge {a b : Cell} : cmpC a b ≥ 0 ↔ ¬ ltC a b := by
  rw [← cmpC_lt]; omega
def goodFrom : Option Cell → List Cell → Bool
  | _, [] => true
  | p, c :: r => decide (okC c) && (match p with | none => true | some q => decide (ltC q c)) && goodFrom (some c) r
def shapeB (l : List Cell) : Bool := goodFrom none l && decide (1 ≤ (l.length : Int) ∧ (l.length : Int) ≤ 40)
theorem specIsShape_ev (l : List Cell) (hs : small l) : Ev (fun k => spec_IsShape.f k l) (shapeB l) := by
  unfold spec_IsShape.f
  refine loop_list l (fun k i (_ : Unit) => spec_IsShape.l0 k l i) (fun pre suf _ => goodFrom pre.getLast? suf && decide (1 ≤ (l.length : Int) ∧ (l.length : Int) ≤ 40)) (fun _ _ => True) ?_ ?_ () trivial
  · intro _ _
    simp only [spec_IsShape.l0, len_lt, if_false, in_eq, Option.bind_some]
    refine Ev.of_eq (Ev.now _) ?_
    simp [goodFrom]
  · intro pre c suf _ hx _ ih
    simp only [spec_IsShape.l0, pre_lt hx, pre_0, if_true, at_pre hx, l02Cell_eq, Option.bind_some, pre_w hx hs]
    by_cases hc : okC c
    · have hc' : ok1 c.f0 ∧ ok1 c.f1 := hc
      simp only [hc', and_self, decide_true, if_true]
      rcases List.eq_nil_or_concat pre with rfl | ⟨L, b, rfl⟩
      · refine Ev.neg (by simp) (Ev.of_eq (ih () trivial) ?_)
        simp [goodFrom, hc]
      · rw [List.concat_eq_append] at hx ih ⊢
        have hx2 : l = L ++ b :: (c :: suf) := by rw [hx]; simp
        have e1 : wrap64 (((L ++ [b]).length : Int) - 1) = (L.length : Int) := by
          unfold small at hs
          rw [hx2] at hs
          simp only [List.length_append, List.length_cons, List.length_nil] at hs ⊢
          rw [w64 (by omega) (by omega)]; omega
        refine Ev.pos (by simp <;> omega) ?_
        simp only [e1, pre_0, if_true, pre_lt hx2, at_pre hx2, l02Less_eq, Option.bind_some]
        by_cases hl : ltC b c
        · have hl' : b.f1 < c.f1 ∨ b.f1 = c.f1 ∧ b.f0 < c.f0 := hl
          refine Ev.pos (by simpa using hl') (Ev.of_eq (ih () trivial) ?_)
          simp [goodFrom, hc, hl]
        · have hl' : ¬ (b.f1 < c.f1 ∨ b.f1 = c.f1 ∧ b.f0 < c.f0) := hl
          refine Ev.neg (by simpa using hl') (Ev.of_eq (Ev.now _) ?_)
          simp [goodFrom, hc, hl]
    · have hc' : ¬ (ok1 c.f0 ∧ ok1 c.f1) := hc
      simp only [hc', decide_false, Bool.false_eq_true, if_false]
      refine Ev.of_eq (Ev.now _) ?_
      simp [goodFrom, hc]
theorem implIsShape_ev (l : List Cell) (hs : small l) : Ev (fun k => impl_IsShape.f k l) (shapeB l) := by
  unfold impl_IsShape.f
  refine loop_list l (fun k i (_ : Unit) => impl_IsShape.l0 k l l (l.length : Int) i) (fun pre suf _ => goodFrom pre.getLast? suf && decide (1 ≤ (l.length : Int) ∧ (l.length : Int) ≤ 40)) (fun _ _ => True) ?_ ?_ () trivial
  · intro _ _
    simp only [impl_IsShape.l0, len_lt, if_false]
    refine Ev.of_eq (Ev.if_ (fun _ => Ev.now _) (fun _ => Ev.now _)) ?_
    by_cases h : (l.length : Int) ≥ 1
    · rw [if_pos h]; simp [goodFrom, show 1 ≤ (l.length : Int) from h]
    · rw [if_neg h]; simp [goodFrom, show ¬ 1 ≤ (l.length : Int) from h]
  · intro pre c suf _ hx _ ih
    simp only [impl_IsShape.l0, pre_lt hx, pre_0, if_true, at_pre hx, isCoordinate_eq, Option.bind_some, pre_w hx hs]
    by_cases hc : okC c
    · have hc' : ok1 c.f0 ∧ ok1 c.f1 := hc
      simp only [hc'.1, hc'.2, decide_true, if_true]
      rcases List.eq_nil_or_concat pre with rfl | ⟨L, b, rfl⟩
      · refine Ev.neg (by simp) (Ev.of_eq (ih () trivial) ?_)
        simp [goodFrom, hc]
      · rw [List.concat_eq_append] at hx ih ⊢
        have hx2 : l = L ++ b :: (c :: suf) := by rw [hx]; simp
        have e1 : wrap64 (((L ++ [b]).length : Int) - 1) = (L.length : Int) := by
          unfold small at hs
          rw [hx2] at hs
          simp only [List.length_append, List.length_cons, List.length_nil] at hs ⊢
          rw [w64 (by omega) (by omega)]; omega
        refine Ev.pos (by simp <;> omega) ?_
        simp only [e1, pre_0, if_true, pre_lt hx2, at_pre hx2, compareCells_eq, Option.bind_some]
        by_cases hl : ltC b c
        · refine Ev.neg (fun h => cmpC_ge.1 h hl) (Ev.of_eq (ih () trivial) ?_)
          simp [goodFrom, hc, hl]
        · refine Ev.pos (cmpC_ge.2 hl) (Ev.of_eq (Ev.now _) ?_)
          simp [goodFrom, hc, hl]
    · by_cases h0 : ok1 c.f0
      · have h1 : ¬ ok1 c.f1 := fun h => hc ⟨h0, h⟩
        simp only [h0, h1, decide_true, if_true, decide_false, Bool.false_eq_true, if_false]
        refine Ev.of_eq (Ev.now _) ?_
        simp [goodFrom, hc]
      · simp only [h0, decide_false, Bool.false_eq_true, if_false]
        refine Ev.of_eq (Ev.now _) ?_
        simp [goodFrom, hc]
theorem goodFrom_ok : ∀ (l : List Cell) (p : Option Cell), goodFrom p l = true → ∀ c ∈ l, okC c
  | [], _, _, c, h => by simp at h
  | a :: r, p, hg, c, h => by
    simp only [goodFrom, Bool.and_eq_true, decide_eq_true_eq] at hg
    rcases List.mem_cons.1 h with rfl | h
    · exact hg.1.1
    · exact goodFrom_ok r _ hg.2 c h
theorem ltC_trans {a b c : Cell} (h : ltC a b) (h' : ltC b c) : ltC a c := by unfold ltC at *; omega
theorem goodFrom_lt : ∀ (l : List Cell) (p : Option Cell), goodFrom p l = true → (∀ q, p = some q → ∀ c ∈ l, ltC q c) ∧ l.Pairwise ltC
  | [], _, _ => ⟨fun _ _ c h => by simp at h, List.Pairwise.nil⟩
  | a :: r, p, hg => by
    simp only [goodFrom, Bool.and_eq_true, decide_eq_true_eq] at hg
    obtain ⟨h1, h2⟩ := goodFrom_lt r (some a) hg.2
    have h3 := h1 a rfl
    refine ⟨fun q hq c hc => ?_, List.pairwise_cons.2 ⟨h3, h2⟩⟩
    subst hq
    have h4 : ltC q a := by simpa using hg.1.2
    rcases List.mem_cons.1 hc with rfl | hc
    · exact h4
    · exact ltC_trans h4 (h3 c hc)
theorem goodFrom_of : ∀ (l : List Cell) (p : Option Cell), (∀ c ∈ l, okC c) → (∀ q, p = some q → ∀ c ∈ l, ltC q c) → l.Pairwise ltC → goodFrom p l = true
  | [], _, _, _, _ => rfl
  | a :: r, p, h0, h1, h2 => by
    obtain ⟨h3, h4⟩ := List.pairwise_cons.1 h2
    simp only [goodFrom, Bool.and_eq_true, decide_eq_true_eq]
    refine ⟨⟨h0 a List.mem_cons_self, ?_⟩, goodFrom_of r (some a) (fun c hc => h0 c (List.mem_cons_of_mem _ hc)) (fun q hq c hc => by injection hq with hq; subst hq; exact h3 c hc) h4⟩
    cases p with
    | none => rfl
    | some q => simpa using h1 q rfl a List.mem_cons_self
theorem shapeB_iff {l : List Cell} : shapeB l = true ↔ (∀ c ∈ l, okC c) ∧ l.Pairwise ltC ∧ 1 ≤ l.length ∧ l.length ≤ 40 := by
  unfold shapeB
  rw [Bool.and_eq_true, decide_eq_true_eq]
  constructor
  · rintro ⟨h, h'⟩
    exact ⟨goodFrom_ok l _ h, (goodFrom_lt l _ h).2, by omega, by omega⟩
  · rintro ⟨h1, h2, h3, h4⟩
    exact ⟨goodFrom_of l none h1 (fun _ h => by cases h) h2, by omega, by omega⟩
def minX : Int → List Cell → Int := fun z l => l.foldl (fun m c => mn m c.f0) z
def minY : Int → List Cell → Int := fun z l => l.foldl (fun m c => mn m c.f1) z
def maxX : Int → List Cell → Int := fun z l => l.foldl (fun m c => mx m c.f0) z
def maxY : Int → List Cell → Int := fun z l => l.foldl (fun m c => mx m c.f1) z
def leastOf (l : List Cell) : Int × Int := match l with | [] => (0, 0) | c :: r => (minX c.f0 r, minY c.f1 r)
def reachOf (l : List Cell) : Int × Int := match l with | [] => (0, 0) | c :: r => (maxX c.f0 r, maxY c.f1 r)
theorem implCorner_ev (l : List Cell) (hs : small l) (h0 : 0 < l.length) : Ev (fun k => impl_corner.f k l) (leastOf l) := by
  unfold impl_corner.f
  obtain ⟨c, r, rfl⟩ : ∃ c r, l = c :: r := by cases l with | nil => simp at h0 | cons c r => exact ⟨c, r, rfl⟩
  refine Ev.pos (by simp <;> omega) ?_
  have h1 : rd_T82 (c :: r) 0 = c := rfl
  rw [h1]
  have := loop_list (c :: r) (fun k i (s : Int × Int) => impl_corner.l0 k (c :: r) ((c :: r).length : Int) i s.1 s.2) (fun _ suf s => (minX s.1 suf, minY s.2 suf)) (fun _ _ => True) ?_ ?_ (c.f0, c.f1) trivial
  · refine Ev.of_eq this ?_
    simp [leastOf, minX, minY, mn]
  · rintro s _
    simp only [impl_corner.l0, len_lt, if_false]
    exact Ev.now _
  · rintro pre d suf s hx _ ih
    simp only [impl_corner.l0, pre_lt hx, pre_0, if_true, at_pre hx, pre_w hx hs]
    exact ih (mn s.1 d.f0, mn s.2 d.f1) trivial
theorem implReach_ev (l : List Cell) (hs : small l) (h0 : 0 < l.length) : Ev (fun k => impl_reach.f k l) (reachOf l) := by
  unfold impl_reach.f
  obtain ⟨c, r, rfl⟩ : ∃ c r, l = c :: r := by cases l with | nil => simp at h0 | cons c r => exact ⟨c, r, rfl⟩
  refine Ev.pos (by simp <;> omega) ?_
  have h1 : rd_T82 (c :: r) 0 = c := rfl
  rw [h1]
  have := loop_list (c :: r) (fun k i (s : Int × Int) => impl_reach.l0 k (c :: r) ((c :: r).length : Int) i s.1 s.2) (fun _ suf s => (maxX s.1 suf, maxY s.2 suf)) (fun _ _ => True) ?_ ?_ (c.f0, c.f1) trivial
  · refine Ev.of_eq this ?_
    simp [reachOf, maxX, maxY, mx]
  · rintro s _
    simp only [impl_reach.l0, len_lt, if_false]
    exact Ev.now _
  · rintro pre d suf s hx _ ih
    simp only [impl_reach.l0, pre_lt hx, pre_0, if_true, at_pre hx, pre_w hx hs]
    exact ih (mx s.1 d.f0, mx s.2 d.f1) trivial
theorem loop_tail {α σ ρ : Type} (c : α) (r : List α) (l : Nat → Int → σ → Option ρ) (g : List α → List α → σ → ρ) (Inv : List α → σ → Prop)
    (hn : ∀ s, Inv (c :: r) s → Ev (fun k => l (k + 1) ((c :: r).length : Int) s) (g (c :: r) [] s))
    (hs : ∀ (pre : List α) (d : α) (suf : List α) (s : σ), c :: r = pre ++ d :: suf → pre ≠ [] → Inv pre s → (∀ s', Inv (pre ++ [d]) s' → Ev (fun k => l k ((pre.length : Int) + 1) s') (g (pre ++ [d]) suf s')) → Ev (fun k => l (k + 1) (pre.length : Int) s) (g pre (d :: suf) s)) :
    ∀ s, Inv [c] s → Ev (fun k => l k 1 s) (g [c] r s) := by
  have key : ∀ (suf pre : List α), c :: r = pre ++ suf → pre ≠ [] → ∀ s, Inv pre s → Ev (fun k => l k (pre.length : Int) s) (g pre suf s) := by
    intro suf
    induction suf with
    | nil =>
      intro pre hx _ s hi
      rw [List.append_nil] at hx
      subst hx
      exact Ev.succ (hn s hi)
    | cons d suf ih =>
      intro pre hx hp s hi
      refine Ev.succ (hs pre d suf s hx hp hi fun s' hi' => ?_)
      have := ih (pre ++ [d]) (by rw [hx]; simp) (by simp) s' hi'
      rw [List.length_append] at this
      exact this
  intro s hi
  exact key r [c] rfl (by simp) s hi
end Go.Proofs.YtipafadbhmngnaaGreatDoor.L
end
