/- The row of FnHexForms, with what it needs: text 8 of 11. -/
import Derived.Test.YtlnliahadgmbcaaKHF6
set_option maxHeartbeats 8000000
set_option maxRecDepth 100000
section
namespace Go.Proofs.Ytlnliahadgmbcaa.F
open Go.RowKit Go.Proofs.YtlnliahadgmbcaaW.PrintWords Go.Proofs.YtlnliahadgmbcaaW.PrintLast Go.Proofs.YtlnliahadgmbcaaW.PrintMore
attribute [local go_sem] max2_int min2_int max_two min_two max_three min_three max_four min_four
set_option linter.unusedVariables false
set_option linter.unusedSimpArgs false
def impl_partsLook.f (l0 : List (S59)) (a1_0 : Int) (a1_1 : Int) : Option (Int × Bool) :=
  if wfC ⟨a1_0, a1_1⟩ = true then some (match lastIdx l0 ⟨a1_0, a1_1⟩ 0 with | some j => ((j : Int), true) | none => (0, false)) else none
theorem lastIdx_snoc (c d : S59) : ∀ (l : List S59) (i : Nat), lastIdx (l ++ [c]) d i = if c.f0 = d.f0 ∧ c.f1 = d.f1 then some (i + l.length) else lastIdx l d i
  | [], i => by simp [lastIdx]
  | a :: r, i => by
    rw [List.cons_append, lastIdx, lastIdx_snoc c d r (i + 1)]
    by_cases h : c.f0 = d.f0 ∧ c.f1 = d.f1
    · simp only [h, and_self, if_true, List.length_cons]; congr 1; omega
    · simp only [h, if_false]; rw [lastIdx]
theorem laidOutP : laidOutB Try.prog = true := by kernel_rfl
theorem keyedC : Maps.Keyed Try.prog 59 := Maps.Keyed.of_law (deep_law_laid laidOutP (m := 4) (by omega) (of_decide_eq_true (by kernel_rfl)) (by kernel_rfl) (by kernel_rfl))
theorem keyTypeC : Try.prog.keyType 59 = true := by kernel_rfl
theorem cellsOfC : Try.prog.cellsOf 59 = 2 := by kernel_rfl
theorem cellsOfI : Try.prog.cellsOf 2 = 1 := by kernel_rfl
theorem typesSize : ∃ n, Try.prog.types.size = n + 1 := ⟨Try.prog.types.size - 1, by have : (0 < Try.prog.types.size) := of_decide_eq_true (by kernel_rfl); omega⟩
abbrev valC (c : S59) : Value := .agg #[.int .i64 c.f0, .int .i64 c.f1]
theorem keyC (c : S59) (h : wfC c = true) : ∃ kl, keyOf Try.prog 59 (valC c) = some kl := by
  unfold wfC at h
  rw [Bool.and_eq_true] at h
  obtain ⟨n, hn⟩ := typesSize
  unfold keyOf
  rw [Try.underlying59]
  have hf : (valC c).formed Try.prog 59 = true := by
    simp only [Value.formed, Try.underlying59, cellsOfC]; rfl
  simp only [keyTypeC, hf, Bool.and_self, if_true, hn]
  refine ⟨_, Option.map_eq_some_iff.2 ⟨[.int .i64 c.f0, .int .i64 c.f1], ?_, rfl⟩⟩
  simp [Program.keyLits, Try.underlying59, Try.underlying2, cellsOfC, cellsOfI, Value.cells, h.1, h.2]
theorem valC_inj {c d : S59} (h : valC c = valC d) : c.f0 = d.f0 ∧ c.f1 = d.f1 := by
  simpa [valC] using h
def PM (w : World) (b : Nat) (l : List S59) : Prop :=
  ∃ (D : DataW Unit) (n : Nat), w.ownsMap Try.prog 59 (plainElem Try.prog 3) b n D ∧ n ≤ l.length ∧ Maps.IsMap D ∧
    ∀ (c : S59) (kl : Lit), keyOf Try.prog 59 (valC c) = some kl → Maps.has D kl = (lastIdx l c 0).isSome ∧ ∀ j : Nat, lastIdx l c 0 = some j → D.atKey kl (.lit (.int .i64 0)) = .lit (.int .i64 j)
section
variable {w w1 W : World} {b g : Nat} {l : List S59}
theorem pm_kept (h : PM w b l) {row : Option Nat} (hg : w.grownBy w1 row) (hne : some b ≠ row) : PM w1 b l := by
  obtain ⟨D, n, ho, r⟩ := h
  exact ⟨D, n, ho.kept hg hne, r⟩
theorem pm_lt (h : PM w b l) : b < w.heap.size := by
  obtain ⟨D, n, ho, r⟩ := h
  exact ho.lt
theorem pm_step (h : PM w b l) (hb : Below w.heap.size w w1) : PM w1 b l := pm_kept h (grown_of_below hb none) (by simp)
theorem pm_alloc (h : PM w b l) (o : Obj) : PM (w.alloc o) b l := pm_kept h (World.grownBy_alloc w o none) (by simp)
theorem pm_drewN (h : PM w b l) (n : Nat) : PM (w.drewN n) b l := pm_step h (pw_below_drewN (Below.refl _ _) n)
theorem pm_drew (h : PM w b l) : PM w.drew b l := pm_step h (below_drew1 (Below.refl _ _))
theorem pm_obj (h : PM w b l) : ∃ es clock, w.heap[b]? = some (.map es clock) := by
  obtain ⟨D, n, ⟨es, clock, hb, _⟩, r⟩ := h
  exact ⟨es, clock, hb⟩
theorem pm_neB (h : PM w b l) {cs : Array Value} {t : TypeId} {fr : Nat × Nat} (hg : w.heap[g]? = some (.cells cs t fr)) : b ≠ g := by
  obtain ⟨es, clock, hb⟩ := pm_obj h
  rintro rfl
  rw [hb] at hg
  simp at hg
theorem pm_farN (h : PM w b l) (hne : b ≠ g) {j : Nat} (u : Value) : PM (w.setCell ⟨g, j, none⟩ u) b l :=
  pm_kept (row := some g) h ⟨rfl, rfl, rfl, by simp, fun k _ hk => Below.heap_setCell _ _ _ k (fun e => hk (by rw [e]))⟩ (by simpa using hne)
theorem pm_row {α : Type} {d : Kd α} {e base : Nat} {ok : Nat → Prop} {v : Value} {xs : List α} (h : PM w b l) (hr : d.R e w base ok v xs) : some b ≠ v.ownBlock := by
  intro he
  obtain ⟨cells, hc⟩ := Kd.R_typed hr b he.symm
  exact pm_neB h hc rfl
theorem pm_append {α : Type} {d : Kd α} {e base : Nat} {ok : Nat → Prop} {v : Value} {xs : List α} (h : PM w b l) (hr : d.R e w base ok v xs) (hg : w.grownBy w1 v.ownBlock) : PM w1 b l := pm_kept h hg (pm_row h hr)
theorem R_map {α : Type} {d : Kd α} {e base : Nat} {ok : Nat → Prop} {v : Value} {xs : List α} (hr : d.R e w base ok v xs) (h : PM w b l) (hg : w.grownBy w1 (some b)) : d.R e w1 base ok v xs :=
  Kd.R_mono (Kd.R_move (Kd.R_bound hr) (fun k hk => hg.block k hk.2.2.1 (by
    obtain ⟨_, _, _, q, _, cells, hc⟩ := hk
    intro he
    injection he with he
    subst he
    exact pm_neB h hc rfl))) (fun _ hk => hk.1)
end
section
variable {rest : List Oper} {o : Oper} {a : Act} {ops : Array Oper} {Q : Exit → Act → World → Prop} {W : World} {b : Nat} {l : List S59}
theorem gate_map {t : TypeId} {m x v : Operand} (_ho : o.op = .mapUpdate t m x v) (h : wpList Try.prog ops Q (o :: rest) a W) : wpList Try.prog ops Q (o :: rest) a W := h
theorem pm_make (hgd : o.guard = none) (hop : o.op = .makeMap 96 none) (h : ∀ b w1, Below W.heap.size W w1 → W.heap.size ≤ b → PM w1 b [] → wpList Try.prog ops Q rest (a.put o.dst (.map (some b))) w1) : wpList Try.prog ops Q (o :: rest) a W := by
  refine Kd.event_run hgd (v := .map (some W.heap.size)) (w1 := W.alloc (.map #[] 0)) ?_ (h _ _ (below_alloc (Below.refl _ _) _) (Nat.le_refl _) ⟨.map [], 0, World.ownsMap_made _ _ _ _, Nat.le_refl _, Maps.isMap_empty, fun c kl _ => ⟨rfl, fun j hj => by simp [lastIdx] at hj⟩⟩)
  simp [execOp, hop, run_makeMap]
theorem pm_put (hgd : o.guard = none) (m x v : Operand) (hop : o.op = .mapUpdate 96 m x v) (hm : a.eval m = .map (some b)) (hM : PM W b l) (hl : l.length ≤ 35184372088832) (c : S59) (hx : a.eval x = valC c) (hv : a.eval v = .int .i64 (l.length : Int)) (hc : wfC c = true)
    (h : ∀ w1, W.grownBy w1 (some b) → PM w1 b (l ++ [c]) → wpList Try.prog ops Q rest (a.put o.dst undef) w1) : wpList Try.prog ops Q (o :: rest) a W := by
  obtain ⟨D, n, ho, hn, hI, hD⟩ := hM
  obtain ⟨kl, hk⟩ := keyC c hc
  have hw : (Lit.int .i64 (l.length : Int)).wf = true := by
    simp only [Lit.wf, IntKind.min, IntKind.max, IntKind.signed, IntKind.bits, Bool.and_eq_true, decide_eq_true_eq, if_true]; omega
  refine wpList_mapUpdate_own W hgd m x v 96 hop 59 3 keyedC Try.underlying96 (plainElem Try.prog 3) b n D hm ho (by simp only [maxLen]; omega) _ _ kl hx hv hk _ [] (plainElem_int Try.underlying3 hw) ?_
  intro w1 ho1 hg
  refine h w1 hg ⟨_, _, ho1, by simp; omega, hI.put _ _, fun d kd hd => ?_⟩
  rw [lastIdx_snoc]
  by_cases e : c.f0 = d.f0 ∧ c.f1 = d.f1
  · have : valC c = valC d := by simp [valC, e.1, e.2]
    rw [← this, hk] at hd
    injection hd with hd
    subst hd
    simp only [e, and_self, if_true, Nat.zero_add]
    refine ⟨by rw [Maps.has_put_same hI (keyedC.key hk)]; rfl, fun j hj => ?_⟩
    obtain rfl := Option.some.inj hj
    exact Maps.atKey_put_same hI (keyedC.key hk) _ _
  · have hne : kd ≠ kl := fun he => e (valC_inj (keyedC.inj hk (he ▸ hd)))
    simp only [e, if_false]
    rw [Maps.has_put_other hne, Maps.atKey_put_other hne]
    exact hD d kd hd
theorem rd_take {l : List S59} {i : Nat} (h : i < l.length) : l.take i ++ [l.getD i z59] = l.take (i + 1) := by
  rw [List.take_add_one, List.getD_eq_getElem?_getD, List.getElem?_eq_getElem h]; rfl
theorem pm_putAt (hgd : o.guard = none) (m x v : Operand) (hop : o.op = .mapUpdate 96 m x v) (hm : a.eval m = .map (some b)) (i : Int) (hM : PM W b (l.take i.toNat)) (h0 : 0 ≤ i) (h1 : i < (l.length : Int)) (hl : l.length ≤ 35184372088832) (hw : l.all wfC = true)
    (hx : a.eval x = .agg #[.int .i64 (rd_T59 l i).f0, .int .i64 (rd_T59 l i).f1]) (hv : a.eval v = .int .i64 i)
    (h : ∀ w1, W.grownBy w1 (some b) → 0 ≤ wrap64 (i + 1) → PM w1 b (l.take (wrap64 (i + 1)).toNat) → wpList Try.prog ops Q rest (a.put o.dst undef) w1) : wpList Try.prog ops Q (o :: rest) a W := by
  have hi : i.toNat < l.length := by omega
  have e : wrap64 (i + 1) = i + 1 := by simp only [wrap64]; omega
  have hlen : (l.take i.toNat).length = i.toNat := by rw [List.length_take]; omega
  refine pm_put hgd m x v hop hm hM (by omega) (rd_T59 l i) hx (by rw [hv, hlen]; congr 1; omega) ?_ ?_
  · refine List.all_eq_true.1 hw _ ?_
    unfold rd_T59
    rw [List.getD_eq_getElem?_getD, List.getElem?_eq_getElem hi]
    exact List.getElem_mem hi
  · intro w1 hg hp
    have hp' : PM w1 b (l.take i.toNat ++ [l.getD i.toNat z59]) := hp
    rw [rd_take hi] at hp'
    refine h w1 hg (by omega) ?_
    rw [e, show (i + 1).toNat = i.toNat + 1 by omega]
    exact hp'
theorem pm_all {w : World} {i : Int} (h : PM w b (l.take i.toNat)) (hi : ¬ i < (l.length : Int)) : PM w b l := by
  rwa [List.take_of_length_le (by omega)] at h
theorem pm_look (hgd : o.guard = none) (m x : Operand) (hop : o.op = .lookup 96 m x true) (hm : a.eval m = .map (some b)) (hM : PM W b l) (c0 c1 : Int) (hx : a.eval x = .agg #[.int .i64 c0, .int .i64 c1]) {t : Int} {ok : Bool} (hf : impl_partsLook.f l c0 c1 = some (t, ok))
    (h : ∀ w1, Below W.heap.size W w1 → PM w1 b l → wpList Try.prog ops Q rest (a.put o.dst (.tuple #[.int .i64 t, .bool ok])) w1) : wpList Try.prog ops Q (o :: rest) a W := by
  have hM' := hM
  obtain ⟨D, n, ho, hn, hI, hD⟩ := hM
  unfold impl_partsLook.f at hf
  by_cases hw : wfC ⟨c0, c1⟩ = true
  · rw [if_pos hw] at hf
    obtain ⟨kl, hk⟩ := keyC ⟨c0, c1⟩ hw
    obtain ⟨h1, h2⟩ := hD ⟨c0, c1⟩ kl hk
    refine wpList_lookup_own_ok_int W hgd m x 96 hop 59 3 .i64 keyedC Try.underlying96 Try.underlying3 (by kernel_rfl) b n D hm ho _ kl hx hk ?_
    intro q hq _
    cases e : lastIdx l ⟨c0, c1⟩ 0 with
    | some j =>
      rw [e] at hf h1
      have h3 := h2 j e
      rw [h3] at hq
      simp only [Option.some.injEq, Prod.mk.injEq] at hf
      obtain ⟨rfl, rfl⟩ := hf
      obtain rfl : (j : Int) = q := by simpa using hq
      rw [h1]
      exact h W (Below.refl _ _) hM'
    | none =>
      rw [e] at hf h1
      rw [Maps.atKey_of_not_has (by simpa using h1)] at hq
      simp only [Option.some.injEq, Prod.mk.injEq] at hf
      obtain ⟨rfl, rfl⟩ := hf
      obtain rfl : (0 : Int) = q := by simpa using hq
      rw [h1]
      exact h W (Below.refl _ _) hM'
  · rw [if_neg hw] at hf
    exact absurd hf (by simp)
end
mutual
def spec_l07Connected.l0 : Nat → Int → List (S59) → List (S59) → Int → Option (Bool)
 | 0, _, _, _, _ => none
 | k + 1, x0, x1, x5, x6 => if x6 < (x5.length : Int) then (if 0 ≤ x6 then ((spec_l07Around.f x0 ((rd_T59 x5 x6).f0) ((rd_T59 x5 x6).f1)).bind fun t511 => (spec_l07Connected.l1 k x0 x1 x5 x6 t511 0)) else (none)) else (some ((x5.length : Int) == (x1.length : Int)))
def spec_l07Connected.l1 : Nat → Int → List (S59) → List (S59) → Int → List (S59) → Int → Option (Bool)
 | 0, _, _, _, _, _, _ => none
 | k + 1, x0, x1, x5, x6, x7, x8 => if x8 < (x7.length : Int) then (if 0 ≤ x8 then ((spec_l02Index.f k x1 ((rd_T59 x7 x8).f0) ((rd_T59 x7 x8).f1)).bind fun t515 => (if t515 ≥ 0 then ((spec_l02Index.f k x5 ((rd_T59 x7 x8).f0) ((rd_T59 x7 x8).f1)).bind fun t517 => (if t517 < 0 then (if x5.length < 8796093022208 then (spec_l07Connected.l1 k x0 x1 (x5 ++ [(⟨(rd_T59 x7 x8).f0, (rd_T59 x7 x8).f1⟩ : S59)]) x6 x7 (wrap64 (x8 + 1))) else (none)) else (spec_l07Connected.l1 k x0 x1 x5 x6 x7 (wrap64 (x8 + 1))))) else (spec_l07Connected.l1 k x0 x1 x5 x6 x7 (wrap64 (x8 + 1))))) else (none)) else (spec_l07Connected.l0 k x0 x1 x5 (wrap64 (x6 + 1)))
end
def spec_l07Connected.f (k : Nat) (a0 : Int) (l1 : List (S59)) : Option (Bool) := if 0 < (l1.length : Int) then (spec_l07Connected.l0 k a0 l1 (([(⟨(rd_T59 l1 0).f0, (rd_T59 l1 0).f1⟩ : S59)] : List (S59))) 0) else (none)
theorem spec_l07Connected.calls (k : Nat) (a0 : Int) (A1 : Option Addr) (c1 : Nat) (l1 : List (S59)) (r : Bool) (w : World) (hr1 : Kd.C k59 w A1 l1.length l1) (hc1 : l1.length ≤ c1) (h : spec_l07Connected.f k a0 l1 = some r) :
  Calls Try.prog 47 #[.int .i64 a0, .slice A1 l1.length c1] w fun e w' => e = .returned (.bool r) ∧ Below w.heap.size w w' := by
 have hu59 := Try.underlying59
 have HR1 := aM hr1
 have HC1 := aM hc1
 clear hr1 hc1
 have HB := aM (Below.refl w.heap.size w)
 have H : (if 0 < (l1.length : Int) then (spec_l07Connected.l0 k a0 l1 (([(⟨(rd_T59 l1 0).f0, (rd_T59 l1 0).f1⟩ : S59)] : List (S59))) 0) else (none)) = some r := h
 clear h
 by_cases c3 : 0 < (l1.length : Int)
 rotate_left
 ·rw [if_neg c3] at H
  exact absurd H (by simp)
 rw [if_pos c3] at H
 have c3b0 : decide (0 < (l1.length : Int)) = true := decide_eq_true c3
 have c3b1 : decide (0 < l1.length) = true := decide_eq_true (by omega)
 clear c3
 obtain ⟨y507, hy507⟩ : ∃ y_ : List (S59), y_ = (([(⟨(rd_T59 l1 0).f0, (rd_T59 l1 0).f1⟩ : S59)] : List (S59))) := ⟨_, rfl⟩
 replace H : (spec_l07Connected.l0 k a0 l1 y507 0) = some r := zy H hy507
 have Ny507 := aM hy507
 clear hy507
 have H' := aM H
 clear H
 have p506 : 0 ≤ (0 : Int) := (by omega)
 have q506 : 0 < (l1.length : Int) := of_decide_eq_true za
 obtain ⟨ad506, e506, hx506_0, hx506_1⟩ := at_T59 HR1.out 0 p506 q506
 cases e506
 have qi506 : (0 < l1.length) = True := eq_true (by omega)
 (try rw [show ((0 : Int)).toNat = 0 from rfl] at hx506_0)
 (try rw [show 0 * 2 = 0 from rfl] at hx506_0)
 (try rw [Addr.add_zero'] at hx506_0)
 (try rw [show ((0 : Int)).toNat = 0 from rfl] at hx506_1)
 (try rw [show 0 * 2 = 0 from rfl] at hx506_1)
 (try rw [Addr.add_zero'] at hx506_1)
 replace p506 := eq_true p506
 replace q506 := eq_true q506
 go_enter Try.func47, Try.ntmps47
 go_wp2_with (first | ((with_reducible refine gate_dst (N := 12) rfl ?_); refine Kd.R_lit k59 _ 59 ?hg (N := 12) ?hd (xs := ([(⟨(rd_T59 l1 0).f0, (rd_T59 l1 0).f1⟩ : S59)] : List (S59))) (inner := [.int .i64 ((rd_T59 l1 0).f0), .int .i64 ((rd_T59 l1 0).f1)]) (ok := fun _ => True) (okp := fun _ => True) ?hr ?hp (fun _ hk => hk) trivial (Below.refl _ _) (Nat.le_refl _) (by simp) ?_; (case hd => rfl); (case hg => rfl); (case hr => first | (go_simp; done) | (go_simp; rfl)); (case hp => exact (Reps.c2 (show Kd.M k59 _ _ _ (⟨(rd_T59 l1 0).f0, (rd_T59 l1 0).f1⟩ : S59) [.int .i64 ((rd_T59 l1 0).f0), .int .i64 ((rd_T59 l1 0).f1)] from (k59_mkM _ _ _ (⟨(rd_T59 l1 0).f0, (rd_T59 l1 0).f1⟩ : S59) )) (Reps.none _ _))); intro v508 w4 ho5 hb hg_ hnew_; clear hg_ hnew_; (first | rw [← Ny507.out] at ho5 | (simp only [Int.reduceToNat] at ho5; rw [← Ny507.out] at ho5)); have n0_ := aM (Kd.R_lower ho5 (below_size zb)); have n1_ := aM (below_step zb hb); clear HB; have HO509 := n0_; have HB := n1_; clear n0_ n1_; clear hb ho5))
 go_loopg [5, 6] k (fun kq v5 v6 w' => ∃ (x5_1 : List (S59)) (x6_1 : Int), v6 = .int .i64 x6_1 ∧ Aside0 (spec_l07Connected.l0 kq a0 l1 x5_1 x6_1 = some r) ∧ Aside0 (kq ≤ k) ∧ Aside0 (Kd.R k59 59 w' w.heap.size (fun _ => True) v5 x5_1) ∧ Aside0 (Below w.heap.size w w'))
 case atStart => exact ⟨(y507), (0), zr, H', ⟨Nat.le_refl _⟩, ⟨mR_ HO509.out⟩, ⟨zb⟩⟩
 case round =>
  clear H'
  try clear c1
  try clear c2
  try clear p2
  try clear c3
  try clear c3b0
  try clear c3b1
  try clear c4
  try clear p5
  try clear q5
  try clear hx5
  try clear qi5
  try clear hx506_0
  try clear hx506_1
  try clear p506
  try clear q506
  obtain ⟨x5_1, x6_1, rfl, HA, HK1, HO_5, HB⟩ := hrel
  cases gk with
  | zero => exact absurd HA.out (by simp [spec_l07Connected.l0])
  | succ k1 =>
   have H := HA.out
   clear HA
   simp only [spec_l07Connected.l0] at H
   by_cases c6 : x6_1 < (x5_1.length : Int)
   rotate_left
   ·rw [if_neg c6] at H
    have c6b0 : decide (x6_1 < (x5_1.length : Int)) = false := decide_eq_false c6
    clear c6
    obtain rfl := Option.some.inj H
    obtain ⟨Ao30, co30, eo30⟩ := Kd.R_slice HO_5.out
    subst eo30
    go_wp2
    go_ret
    exact ⟨zw, zb⟩
   rw [if_pos c6] at H
   have c6b0 : decide (x6_1 < (x5_1.length : Int)) = true := decide_eq_true c6
   clear c6
   by_cases c7 : 0 ≤ x6_1
   rotate_left
   ·rw [if_neg c7] at H
    exact absurd H (by simp)
   rw [if_pos c7] at H
   have c7b0 : decide (0 ≤ x6_1) = true := decide_eq_true c7
   clear c7
   replace H := Option.bind_eq_some_iff.mp H
   obtain ⟨t511, A80, H⟩ := H
   replace H : (spec_l07Connected.l1 k1 a0 l1 x5_1 x6_1 t511 0) = some r := H
   have A8 := aM A80
   clear A80
   have H' := aM H
   clear H
   obtain ⟨Ao9, co9, eo9⟩ := Kd.R_slice HO_5.out
   subst eo9
   have p510 : 0 ≤ (x6_1 : Int) := of_decide_eq_true za
   have q510 : x6_1 < (x5_1.length : Int) := of_decide_eq_true za
   obtain ⟨ad510, e510, hx510_0, hx510_1⟩ := at_T59 (Kd.R_reads' HO_5.out).2.2 x6_1 p510 q510
   cases e510
   replace p510 := eq_true p510
   replace q510 := eq_true q510
   go_wp2_with (first | ((with_reducible refine gate_callee (f := 87) rfl ?_); refine goesL_ (some 24) rfl rfl Try.func87 (by kernel_rfl) rfl #[.int .i64 a0, .agg #[.int .i64 ((rd_T59 x5_1 x6_1).f0), .int .i64 ((rd_T59 x5_1 x6_1).f1)]] rfl zm ?_; (with_reducible refine (spec_l07Around.calls a0 ((rd_T59 x5_1 x6_1).f0) ((rd_T59 x5_1 x6_1).f1) t511 _ A8.out).mono ?_); rintro e w10 ⟨v512, rfl, ho0, hb⟩; refine ⟨_, rfl, ?_⟩; have n0_ := aM (Kd.R_elder' (mR_ HO_5.out) (Kd.R_base ho0) hb); have n1_ := aM (Kd.R_lower (Kd.R_new' ho0 (Kd.R_lt (mR_ HO_5.out))) (below_size zb)); have n2_ := aM (below_step zb hb); clear HO_5 HB; have HO_5 := n0_; have HO513 := n1_; have HB := n2_; clear n0_ n1_ n2_; (try clear hb); (try clear hb2); (try clear hk); (try clear hi); (try clear ho0)))
   go_loopg [5, 8] k1 (fun kq v5 v8 w' => ∃ (x5_2 : List (S59)) (x8_2 : Int), v8 = .int .i64 x8_2 ∧ Aside0 (spec_l07Connected.l1 kq a0 l1 x5_2 x6_1 t511 x8_2 = some r) ∧ Aside0 (kq ≤ k1) ∧ Aside0 (Kd.R k59 59 w' w.heap.size (fun k_ => some k_ ≠ (v512 : Value).ownBlock) v5 x5_2) ∧ Aside0 (Kd.R k59 59 w' w.heap.size (fun k_ => some k_ ≠ (v5 : Value).ownBlock) v512 t511) ∧ Aside0 (Below w.heap.size w w'))
   case atStart => exact ⟨(x5_1), (0), zr, H', ⟨Nat.le_refl _⟩, ⟨zd1 HO_5.out⟩, ⟨zd1 HO513.out⟩, ⟨zb⟩⟩
   case round =>
    clear H'
    try clear c1
    try clear c2
    try clear p2
    try clear c3
    try clear c3b0
    try clear c3b1
    try clear c4
    try clear p5
    try clear q5
    try clear hx5
    try clear qi5
    try clear c6
    try clear c6b0
    try clear c7
    try clear c7b0
    try clear c8
    try clear hx506_0
    try clear hx506_1
    try clear hx510_0
    try clear hx510_1
    try clear p2
    try clear p5
    try clear p506
    try clear p510
    try clear q5
    try clear q506
    try clear q510
    obtain ⟨x5_2, x8_2, rfl, HA, HK2, HO_5, HO_7, HB⟩ := hrel
    cases gk with
    | zero => exact absurd HA.out (by simp [spec_l07Connected.l1])
    | succ k2 =>
     have H := HA.out
     clear HA
     simp only [spec_l07Connected.l1] at H
     by_cases c11 : x8_2 < (t511.length : Int)
     rotate_left
     ·rw [if_neg c11] at H
      have c11b0 : decide (x8_2 < (t511.length : Int)) = false := decide_eq_false c11
      clear c11
      have H' := aM H
      clear H
      obtain ⟨Ao29, co29, eo29⟩ := Kd.R_slice HO_7.out
      subst eo29
      go_wp2
      go_roundg k2
      case measure => have := HK1.out; have := HK2.out; omega
      case rel => exact ⟨(x5_2), (wrap64 (x6_1 + 1)), zr, H', ⟨by have := HK1.out; have := HK2.out; omega⟩, ⟨zd0 HO_5.out⟩, ⟨zb⟩⟩
     rw [if_pos c11] at H
     have c11b0 : decide (x8_2 < (t511.length : Int)) = true := decide_eq_true c11
     clear c11
     by_cases c12 : 0 ≤ x8_2
     rotate_left
     ·rw [if_neg c12] at H
      exact absurd H (by simp)
     rw [if_pos c12] at H
     have c12b0 : decide (0 ≤ x8_2) = true := decide_eq_true c12
     clear c12
     replace H := Option.bind_eq_some_iff.mp H
     obtain ⟨t515, A130, H⟩ := H
     replace H : (if t515 ≥ 0 then ((spec_l02Index.f k2 x5_2 ((rd_T59 t511 x8_2).f0) ((rd_T59 t511 x8_2).f1)).bind fun t517 => (if t517 < 0 then (if x5_2.length < 8796093022208 then (spec_l07Connected.l1 k2 a0 l1 (x5_2 ++ [(⟨(rd_T59 t511 x8_2).f0, (rd_T59 t511 x8_2).f1⟩ : S59)]) x6_1 t511 (wrap64 (x8_2 + 1))) else (none)) else (spec_l07Connected.l1 k2 a0 l1 x5_2 x6_1 t511 (wrap64 (x8_2 + 1))))) else (spec_l07Connected.l1 k2 a0 l1 x5_2 x6_1 t511 (wrap64 (x8_2 + 1)))) = some r := H
     have A13 := aM A130
     clear A130
     by_cases c14 : t515 ≥ 0
     rotate_left
     ·rw [if_neg c14] at H
      have c14b0 : decide (0 ≤ t515) = false := decide_eq_false c14
      clear c14
      have H' := aM H
      clear H
      obtain ⟨Ao27, co27, eo27⟩ := Kd.R_slice HO_7.out
      subst eo27
      have p514 : 0 ≤ (x8_2 : Int) := of_decide_eq_true za
      have q514 : x8_2 < (t511.length : Int) := of_decide_eq_true za
      obtain ⟨ad514, e514, hx514_0, hx514_1⟩ := at_T59 (Kd.R_reads' HO_7.out).2.2 x8_2 p514 q514
      cases e514
      replace p514 := eq_true p514
      replace q514 := eq_true q514
      go_wp2_with (first | ((with_reducible refine gate_callee (f := 64) rfl ?_); refine goesL_ (some 36) rfl rfl Try.func64 (by kernel_rfl) rfl #[.slice (some ad506) l1.length c1, .agg #[.int .i64 ((rd_T59 t511 x8_2).f0), .int .i64 ((rd_T59 t511 x8_2).f1)]] rfl zm ?_; (with_reducible refine (spec_l02Index.calls k2 _ _ l1 ((rd_T59 t511 x8_2).f0) ((rd_T59 t511 x8_2).f1) t515 _ ?side1 ?side2 A13.out).mono ?_); (case side1 => repeat (first | exact (Kd.C_below HR1.out HB.out) | (with_reducible refine Kd.C_alloc ?_ _) | (with_reducible refine Kd.C_drewN ?_ _) | (with_reducible refine Kd.C_drew ?_))); (case side2 => exact HC1.out); rintro e w28 ⟨rfl, hb⟩; refine ⟨_, rfl, ?_⟩; have n0_ := aM (Kd.R_below (mR_ HO_5.out) hb); have n1_ := aM (Kd.R_below (mR_ HO_7.out) hb); have n2_ := aM (below_step zb hb); clear HO_5 HO_7 HB; have HO_5 := n0_; have HO_7 := n1_; have HB := n2_; clear n0_ n1_ n2_; (try clear hb); (try clear hb2); (try clear hk); (try clear hi)))
      go_roundg k2
      case measure => have := HK1.out; have := HK2.out; omega
      case rel => exact ⟨(x5_2), (wrap64 (x8_2 + 1)), zr, H', ⟨by have := HK1.out; have := HK2.out; omega⟩, ⟨mR_ HO_5.out⟩, ⟨mR_ HO_7.out⟩, ⟨zb⟩⟩
     rw [if_pos c14] at H
     have c14b0 : decide (0 ≤ t515) = true := decide_eq_true c14
     clear c14
     replace H := Option.bind_eq_some_iff.mp H
     obtain ⟨t517, A150, H⟩ := H
     replace H : (if t517 < 0 then (if x5_2.length < 8796093022208 then (spec_l07Connected.l1 k2 a0 l1 (x5_2 ++ [(⟨(rd_T59 t511 x8_2).f0, (rd_T59 t511 x8_2).f1⟩ : S59)]) x6_1 t511 (wrap64 (x8_2 + 1))) else (none)) else (spec_l07Connected.l1 k2 a0 l1 x5_2 x6_1 t511 (wrap64 (x8_2 + 1)))) = some r := H
     have A15 := aM A150
     clear A150
     by_cases c16 : t517 < 0
     rotate_left
     ·rw [if_neg c16] at H
      have c16b0 : decide (t517 < 0) = false := decide_eq_false c16
      clear c16
      have H' := aM H
      clear H
      obtain ⟨Ao23, co23, eo23⟩ := Kd.R_slice HO_7.out
      subst eo23
      have p514 : 0 ≤ (x8_2 : Int) := of_decide_eq_true za
      have q514 : x8_2 < (t511.length : Int) := of_decide_eq_true za
      obtain ⟨ad514, e514, hx514_0, hx514_1⟩ := at_T59 (Kd.R_reads' HO_7.out).2.2 x8_2 p514 q514
      cases e514
      replace p514 := eq_true p514
      replace q514 := eq_true q514
      go_wp2_with (first | ((with_reducible refine gate_callee (f := 64) rfl ?_); refine goesL_ (some 36) rfl rfl Try.func64 (by kernel_rfl) rfl #[.slice (some ad506) l1.length c1, .agg #[.int .i64 ((rd_T59 t511 x8_2).f0), .int .i64 ((rd_T59 t511 x8_2).f1)]] rfl zm ?_; (with_reducible refine (spec_l02Index.calls k2 _ _ l1 ((rd_T59 t511 x8_2).f0) ((rd_T59 t511 x8_2).f1) t515 _ ?side1 ?side2 A13.out).mono ?_); (case side1 => repeat (first | exact (Kd.C_below HR1.out HB.out) | (with_reducible refine Kd.C_alloc ?_ _) | (with_reducible refine Kd.C_drewN ?_ _) | (with_reducible refine Kd.C_drew ?_))); (case side2 => exact HC1.out); rintro e w24 ⟨rfl, hb⟩; refine ⟨_, rfl, ?_⟩; have n0_ := aM (Kd.R_below (mR_ HO_5.out) hb); have n1_ := aM (Kd.R_below (mR_ HO_7.out) hb); have n2_ := aM (below_step zb hb); clear HO_5 HO_7 HB; have HO_5 := n0_; have HO_7 := n1_; have HB := n2_; clear n0_ n1_ n2_; (try clear hb); (try clear hb2); (try clear hk); (try clear hi); have p516 : 0 ≤ (x8_2 : Int) := of_decide_eq_true za; have q516 : x8_2 < (t511.length : Int) := of_decide_eq_true za; obtain ⟨ad516, e516, hx516_0, hx516_1⟩ := at_T59 (Kd.R_reads' HO_7.out).2.2 x8_2 p516 q516; obtain rfl : ad514 = ad516 := (by injection e516); replace p516 := eq_true p516; replace q516 := eq_true q516; obtain ⟨Ao25, co25, eo25⟩ := Kd.R_slice HO_5.out; subst eo25) | (go_at_call 64; (with_reducible refine (spec_l02Index.calls k2 _ _ x5_2 ((rd_T59 t511 x8_2).f0) ((rd_T59 t511 x8_2).f1) t517 _ ?side1 ?side2 A15.out).mono ?_); (case side1 => exact zc HO_5.out); (case side2 => exact (Kd.R_reads' HO_5.out).2.1); rintro e w26 ⟨rfl, hb⟩; have n0_ := aM (Kd.R_below (mR_ HO_5.out) hb); have n1_ := aM (Kd.R_below (mR_ HO_7.out) hb); have n2_ := aM (below_step zb hb); clear HO_5 HO_7 HB; have HO_5 := n0_; have HO_7 := n1_; have HB := n2_; clear n0_ n1_ n2_; (try clear hb); (try clear hb2); (try clear hk); (try clear hi)))
      go_roundg k2
      case measure => have := HK1.out; have := HK2.out; omega
      case rel => exact ⟨(x5_2), (wrap64 (x8_2 + 1)), zr, H', ⟨by have := HK1.out; have := HK2.out; omega⟩, ⟨mR_ HO_5.out⟩, ⟨mR_ HO_7.out⟩, ⟨zb⟩⟩
     rw [if_pos c16] at H
     have c16b0 : decide (t517 < 0) = true := decide_eq_true c16
     clear c16
     by_cases c17 : x5_2.length < 8796093022208
     rotate_left
     ·rw [if_neg c17] at H
      exact absurd H (by simp)
     rw [if_pos c17] at H
     have LMc17 := aM c17
     clear c17
     obtain ⟨y519, hy519⟩ : ∃ y_ : List (S59), y_ = (x5_2 ++ [(⟨(rd_T59 t511 x8_2).f0, (rd_T59 t511 x8_2).f1⟩ : S59)]) := ⟨_, rfl⟩
     replace H : (spec_l07Connected.l1 k2 a0 l1 y519 x6_1 t511 (wrap64 (x8_2 + 1))) = some r := zy H hy519
     have Ny519 := aM hy519
     clear hy519
     have H' := aM H
     clear H
     obtain ⟨Ao18, co18, eo18⟩ := Kd.R_slice HO_7.out
     subst eo18
     have p514 : 0 ≤ (x8_2 : Int) := of_decide_eq_true za
     have q514 : x8_2 < (t511.length : Int) := of_decide_eq_true za
     obtain ⟨ad514, e514, hx514_0, hx514_1⟩ := at_T59 (Kd.R_reads' HO_7.out).2.2 x8_2 p514 q514
     cases e514
     replace p514 := eq_true p514
     replace q514 := eq_true q514
     go_wp2_with (first | ((with_reducible refine gate_callee (f := 64) rfl ?_); refine goesL_ (some 36) rfl rfl Try.func64 (by kernel_rfl) rfl #[.slice (some ad506) l1.length c1, .agg #[.int .i64 ((rd_T59 t511 x8_2).f0), .int .i64 ((rd_T59 t511 x8_2).f1)]] rfl zm ?_; (with_reducible refine (spec_l02Index.calls k2 _ _ l1 ((rd_T59 t511 x8_2).f0) ((rd_T59 t511 x8_2).f1) t515 _ ?side1 ?side2 A13.out).mono ?_); (case side1 => repeat (first | exact (Kd.C_below HR1.out HB.out) | (with_reducible refine Kd.C_alloc ?_ _) | (with_reducible refine Kd.C_drewN ?_ _) | (with_reducible refine Kd.C_drew ?_))); (case side2 => exact HC1.out); rintro e w19 ⟨rfl, hb⟩; refine ⟨_, rfl, ?_⟩; have n0_ := aM (Kd.R_below (mR_ HO_5.out) hb); have n1_ := aM (Kd.R_below (mR_ HO_7.out) hb); have n2_ := aM (below_step zb hb); clear HO_5 HO_7 HB; have HO_5 := n0_; have HO_7 := n1_; have HB := n2_; clear n0_ n1_ n2_; (try clear hb); (try clear hb2); (try clear hk); (try clear hi); have p516 : 0 ≤ (x8_2 : Int) := of_decide_eq_true za; have q516 : x8_2 < (t511.length : Int) := of_decide_eq_true za; obtain ⟨ad516, e516, hx516_0, hx516_1⟩ := at_T59 (Kd.R_reads' HO_7.out).2.2 x8_2 p516 q516; obtain rfl : ad514 = ad516 := (by injection e516); replace p516 := eq_true p516; replace q516 := eq_true q516; obtain ⟨Ao20, co20, eo20⟩ := Kd.R_slice HO_5.out; subst eo20) | (go_at_call 64; (with_reducible refine (spec_l02Index.calls k2 _ _ x5_2 ((rd_T59 t511 x8_2).f0) ((rd_T59 t511 x8_2).f1) t517 _ ?side1 ?side2 A15.out).mono ?_); (case side1 => exact zc HO_5.out); (case side2 => exact (Kd.R_reads' HO_5.out).2.1); rintro e w21 ⟨rfl, hb⟩; have n0_ := aM (Kd.R_below (mR_ HO_5.out) hb); have n1_ := aM (Kd.R_below (mR_ HO_7.out) hb); have n2_ := aM (below_step zb hb); clear HO_5 HO_7 HB; have HO_5 := n0_; have HO_7 := n1_; have HB := n2_; clear n0_ n1_ n2_; (try clear hb); (try clear hb2); (try clear hk); (try clear hi); have p518 : 0 ≤ (x8_2 : Int) := of_decide_eq_true za; have q518 : x8_2 < (t511.length : Int) := of_decide_eq_true za; obtain ⟨ad518, e518, hx518_0, hx518_1⟩ := at_T59 (Kd.R_reads' HO_7.out).2.2 x8_2 p518 q518; obtain rfl : ad514 = ad518 := (by injection e518); replace p518 := eq_true p518; replace q518 := eq_true q518) | ((with_reducible refine gate_builtin (b := .append) (xs := #[.tmp 47, .tmp 52]) rfl ?_); at_builtin; refine Kd.R_append k59 (w0 := w) w.heap.size rfl (.tmp 47) (.tmp 52) 24 59 (.agg #[(.int .i64 0), (.int .i64 0)]) 16 rfl Try.underlying24 info59 rfl (by decide) (by omega) (.slice Ao20 x5_2.length co20) x5_2 (⟨(rd_T59 t511 x8_2).f0, (rd_T59 t511 x8_2).f1⟩ : S59) [.int .i64 ((rd_T59 t511 x8_2).f0), .int .i64 ((rd_T59 t511 x8_2).f1)] (fun k_ => some k_ ≠ (.slice (some ad514) t511.length co18 : Value).ownBlock) (fun _ => False) rfl rfl ?aP (fun _ hk => hk.elim) ?aF ?aO ?aB ?aS ?aL ?_; (case aP => exact k59_mkM _ _ _ (⟨(rd_T59 t511 x8_2).f0, (rd_T59 t511 x8_2).f1⟩ : S59)); (case aB => exact zb); (case aF => exact (fun k_ hk => Kd.fresh' (Kd.R_lt (mR_ HO_7.out)) k_ hk)); (case aO => exact (mR_ HO_5.out)); (case aS => exact (below_size zb)); (case aL => have := LMc17.out; omega); intro v520 w22 ho hb hg hat; rw [← Ny519.out] at ho; have n0_ := aM (Kd.R_after (ok := (fun _ => True)) (zd6 HO_7.out) hg hat); have n1_ := aM (hb); have n2_ := aM (ho); clear HO_7 HB HO_5; have HO_7 := n0_; have HB := n1_; have HO521 := n2_; clear n0_ n1_ n2_; clear ho hb hg hat))
     go_roundg k2
     case measure => have := HK1.out; have := HK2.out; omega
     case rel => exact ⟨(y519), (wrap64 (x8_2 + 1)), zr, H', ⟨by have := HK1.out; have := HK2.out; omega⟩, ⟨mR_ HO521.out⟩, ⟨zd1 HO_7.out⟩, ⟨zb⟩⟩
end Go.Proofs.Ytlnliahadgmbcaa.F
end
section
namespace Go.Proofs.Ytlnliahadgmbcaa.F
open Go.RowKit Go.Proofs.YtlnliahadgmbcaaW.PrintWords Go.Proofs.YtlnliahadgmbcaaW.PrintLast Go.Proofs.YtlnliahadgmbcaaW.PrintMore
attribute [local go_sem] max2_int min2_int max_two min_two max_three min_three max_four min_four
set_option linter.unusedVariables false
set_option linter.unusedSimpArgs false
def spec_HexSymmetries.l0 : Nat → List (List (S59)) → List Int → Int → Option (List Int × Int)
 | 0, _, _, _ => none
 | k + 1, x4, x6, x7 => if x7 < 12 then (if 0 ≤ x7 then (if x7 < (x4.length : Int) then (if 0 < (x4.length : Int) then ((spec_CompareShapes.f k (rd_L2 x4 x7) (rd_L2 x4 0)).bind fun t979 => (if t979 = 0 then (if x6.length < 17592186044416 then (spec_HexSymmetries.l0 k x4 (x6 ++ [x7]) (wrap64 (x7 + 1))) else (none)) else (spec_HexSymmetries.l0 k x4 x6 (wrap64 (x7 + 1))))) else (none)) else (none)) else (none)) else (some (x6, 0))
def spec_HexSymmetries.f (k : Nat) (l0 : List (S59)) : Option (List Int × Int) := (spec_IsShape.f k l0).bind fun t969 => (if t969 = true then ((spec_l07Forms.f k 1 l0).bind fun bt970 => (if bt970.2 = true then (spec_HexSymmetries.l0 k bt970.1 (([] : List Int)) 0) else (some (([] : List Int), 3)))) else (some (([] : List Int), 1)))
def spec_HexSymmetries.T10 : Bool × List (List Nat × List Nat) := (true, [([], []), ([], []), ([0, 1], [0, 1]), ([2], [2]), ([], []), ([4], [4]), ([5], [5]), ([3, 6], [3, 6]), ([7], [7])])
def spec_HexSymmetries.B10 : List Nat := [0, 0, 3, 7, 0, 16, 48, 127, 255]
theorem spec_HexSymmetries.tab10 : rtab .any (opsOf Try.f26 10) = spec_HexSymmetries.T10 := by kernel_rfl
theorem spec_HexSymmetries.bits10 : waitsOk spec_HexSymmetries.T10.2 spec_HexSymmetries.B10 = true := by kernel_rfl
theorem spec_HexSymmetries.calls (k : Nat) (A0 : Option Addr) (c0 : Nat) (l0 : List (S59)) (r1 : List Int) (r2 : Int) (w : World) (hr0 : Kd.C k59 w A0 l0.length l0) (hc0 : l0.length ≤ c0) (h : spec_HexSymmetries.f k l0 = some (r1, r2)) :
  Calls Try.prog 26 #[.slice A0 l0.length c0] w fun e w' => ∃ v0_ : Value, e = .returned (.tuple #[v0_, .int .i64 r2]) ∧ Kd.R (Kd.int .i64) 2 w' w.heap.size (fun _ => True) v0_ r1 ∧ Below w.heap.size w w' := by
 have HR0 := aM hr0
 have HC0 := aM hc0
 clear hr0 hc0
 have HB := aM (Below.refl w.heap.size w)
 have H : ((spec_IsShape.f k l0).bind fun t969 => (if t969 = true then ((spec_l07Forms.f k 1 l0).bind fun bt970 => (if bt970.2 = true then (spec_HexSymmetries.l0 k bt970.1 (([] : List Int)) 0) else (some (([] : List Int), 3)))) else (some (([] : List Int), 1)))) = some (r1, r2) := h
 clear h
 replace H := Option.bind_eq_some_iff.mp H
 obtain ⟨t969, A20, H⟩ := H
 replace H : (if t969 = true then ((spec_l07Forms.f k 1 l0).bind fun bt970 => (if bt970.2 = true then (spec_HexSymmetries.l0 k bt970.1 (([] : List Int)) 0) else (some (([] : List Int), 3)))) else (some (([] : List Int), 1))) = some (r1, r2) := H
 have A2 := aM A20
 clear A20
 by_cases c3 : t969 = true
 rotate_left
 ·replace c3 := Bool.eq_false_iff.mpr c3
  subst c3
  have H1 : (some (([] : List Int), 1)) = some (r1, r2) := by rw [if_neg (show ¬ (false = true) by decide)] at H; exact H
  clear H
  have H := H1
  clear H1
  simp only [Option.some.injEq, Prod.mk.injEq] at H
  obtain ⟨rfl, rfl⟩ := H
  go_enter Try.func26, Try.ntmps26
  go_wp2_with (first | ((with_reducible refine gate_callee (f := 68) rfl ?_); refine goesL_ (some 9) rfl rfl Try.func68 (by kernel_rfl) rfl #[.slice A0 l0.length c0] rfl zm ?_; (with_reducible refine (spec_IsShape.calls k _ _ l0 false _ ?side1 ?side2 A2.out).mono ?_); (case side1 => repeat (first | exact HR0.out | (with_reducible refine Kd.C_alloc ?_ _) | (with_reducible refine Kd.C_drewN ?_ _) | (with_reducible refine Kd.C_drew ?_))); (case side2 => exact HC0.out); rintro e w26 ⟨rfl, hb⟩; refine ⟨_, rfl, ?_⟩; have n0_ := aM (below_step zb hb); clear HB; have HB := n0_; clear n0_; (try clear hb); (try clear hb2); (try clear hk); (try clear hi)))
  go_ret2
  exact ⟨_, zw, by first | exact Kd.R_nil _ _ _ _ _ | exact Kd.N_nil _ _ _ _ _ | exact Kd.V_nil _ _ _ _ _ | exact Kd.Q_nil _ _ _ _ _ | exact Kd.S_nil _ _ _ _ _, zb⟩
 subst c3
 have H1 : ((spec_l07Forms.f k 1 l0).bind fun bt970 => (if bt970.2 = true then (spec_HexSymmetries.l0 k bt970.1 (([] : List Int)) 0) else (some (([] : List Int), 3)))) = some (r1, r2) := by rw [if_pos rfl] at H; exact H
 clear H
 have H := H1
 clear H1
 replace H := Option.bind_eq_some_iff.mp H
 obtain ⟨⟨t970, t971⟩, A40, H⟩ := H
 replace H : (if t971 = true then (spec_HexSymmetries.l0 k t970 (([] : List Int)) 0) else (some (([] : List Int), 3))) = some (r1, r2) := H
 have A4 := aM A40
 clear A40
 by_cases c5 : t971 = true
 rotate_left
 ·replace c5 := Bool.eq_false_iff.mpr c5
  subst c5
  have H1 : (some (([] : List Int), 3)) = some (r1, r2) := by rw [if_neg (show ¬ (false = true) by decide)] at H; exact H
  clear H
  have H := H1
  clear H1
  simp only [Option.some.injEq, Prod.mk.injEq] at H
  obtain ⟨rfl, rfl⟩ := H
  go_enter Try.func26, Try.ntmps26
  go_wp2_with (first | ((with_reducible refine gate_callee (f := 68) rfl ?_); refine goesL_ (some 9) rfl rfl Try.func68 (by kernel_rfl) rfl #[.slice A0 l0.length c0] rfl zm ?_; (with_reducible refine (spec_IsShape.calls k _ _ l0 true _ ?side1 ?side2 A2.out).mono ?_); (case side1 => repeat (first | exact HR0.out | (with_reducible refine Kd.C_alloc ?_ _) | (with_reducible refine Kd.C_drewN ?_ _) | (with_reducible refine Kd.C_drew ?_))); (case side2 => exact HC0.out); rintro e w24 ⟨rfl, hb⟩; refine ⟨_, rfl, ?_⟩; have n0_ := aM (below_step zb hb); clear HB; have HB := n0_; clear n0_; (try clear hb); (try clear hb2); (try clear hk); (try clear hi)) | ((with_reducible refine gate_callee (f := 69) rfl ?_); refine goesL_ (some 13) rfl rfl Try.func69 (by kernel_rfl) rfl #[.int .i64 1, .slice A0 l0.length c0] rfl zm ?_; (with_reducible refine (spec_l07Forms.calls k 1 _ _ l0 t970 false _ ?side1 ?side2 A4.out).mono ?_); (case side1 => repeat (first | exact (Kd.C_below HR0.out HB.out) | (with_reducible refine Kd.C_alloc ?_ _) | (with_reducible refine Kd.C_drewN ?_ _) | (with_reducible refine Kd.C_drew ?_))); (case side2 => exact HC0.out); rintro e w25 ⟨v972, rfl, ho0, hb⟩; refine ⟨_, rfl, ?_⟩; have n0_ := aM (Kd.S_lower ho0 (below_size zb)); have n1_ := aM (below_step zb hb); clear HB; have HO973 := n0_; have HB := n1_; clear n0_ n1_; (try clear hb); (try clear hb2); (try clear hk); (try clear hi); (try clear ho0)))
  go_ret2
  exact ⟨_, zw, by first | exact Kd.R_nil _ _ _ _ _ | exact Kd.N_nil _ _ _ _ _ | exact Kd.V_nil _ _ _ _ _ | exact Kd.Q_nil _ _ _ _ _ | exact Kd.S_nil _ _ _ _ _, zb⟩
 subst c5
 have H1 : (spec_HexSymmetries.l0 k t970 (([] : List Int)) 0) = some (r1, r2) := by rw [if_pos rfl] at H; exact H
 clear H
 have H := H1
 clear H1
 obtain ⟨y974, hy974⟩ : ∃ y_ : List Int, y_ = (([] : List Int)) := ⟨_, rfl⟩
 replace H : (spec_HexSymmetries.l0 k t970 y974 0) = some (r1, r2) := zy H hy974
 have Ny974 := aM hy974
 clear hy974
 have H' := aM H
 clear H
 go_enter Try.func26, Try.ntmps26
 go_wp2_with (first | ((with_reducible refine gate_callee (f := 68) rfl ?_); refine goesL_ (some 9) rfl rfl Try.func68 (by kernel_rfl) rfl #[.slice A0 l0.length c0] rfl zm ?_; (with_reducible refine (spec_IsShape.calls k _ _ l0 true _ ?side1 ?side2 A2.out).mono ?_); (case side1 => repeat (first | exact HR0.out | (with_reducible refine Kd.C_alloc ?_ _) | (with_reducible refine Kd.C_drewN ?_ _) | (with_reducible refine Kd.C_drew ?_))); (case side2 => exact HC0.out); rintro e w6 ⟨rfl, hb⟩; refine ⟨_, rfl, ?_⟩; have n0_ := aM (below_step zb hb); clear HB; have HB := n0_; clear n0_; (try clear hb); (try clear hb2); (try clear hk); (try clear hi)) | ((with_reducible refine gate_callee (f := 69) rfl ?_); refine goesL_ (some 13) rfl rfl Try.func69 (by kernel_rfl) rfl #[.int .i64 1, .slice A0 l0.length c0] rfl zm ?_; (with_reducible refine (spec_l07Forms.calls k 1 _ _ l0 t970 true _ ?side1 ?side2 A4.out).mono ?_); (case side1 => repeat (first | exact (Kd.C_below HR0.out HB.out) | (with_reducible refine Kd.C_alloc ?_ _) | (with_reducible refine Kd.C_drewN ?_ _) | (with_reducible refine Kd.C_drew ?_))); (case side2 => exact HC0.out); rintro e w7 ⟨v972, rfl, ho0, hb⟩; refine ⟨_, rfl, ?_⟩; have n0_ := aM (Kd.S_lower ho0 (below_size zb)); have n1_ := aM (below_step zb hb); clear HB; have HO973 := n0_; have HB := n1_; clear n0_ n1_; (try clear hb); (try clear hb2); (try clear hk); (try clear hi); (try clear ho0)) | ((with_reducible refine gate_dst (N := 18) rfl ?_); refine Kd.R_lit (Kd.int .i64) _ 2 ?hg (N := 18) ?hd (xs := ([] : List Int)) (inner := []) (ok := fun _ => True) (okp := fun _ => True) ?hr ?hp (fun _ hk => hk) trivial (Below.refl _ _) (Nat.le_refl _) (by simp) ?_; (case hd => rfl); (case hg => rfl); (case hr => first | (go_simp; done) | (go_simp; rfl)); (case hp => exact (Reps.none _ _)); intro v975 w8 ho9 hb hg_ hnew_; clear hg_ hnew_; (first | rw [← Ny974.out] at ho9 | (simp only [Int.reduceToNat] at ho9; rw [← Ny974.out] at ho9)); have n0_ := aM (Kd.S_below (mS_ HO973.out) hb); have n1_ := aM (Kd.R_lower ho9 (below_size zb)); have n2_ := aM (below_step zb hb); clear HO973 HB; have HO973 := n0_; have HO976 := n1_; have HB := n2_; clear n0_ n1_ n2_; clear hb ho9))
 go_loopg [6, 7] k (fun kq v6 v7 w' => ∃ (x6_1 : List Int) (x7_1 : Int), v7 = .int .i64 x7_1 ∧ Aside0 (spec_HexSymmetries.l0 kq t970 x6_1 x7_1 = some (r1, r2)) ∧ Aside0 (kq ≤ k) ∧ Aside0 (Kd.S (Kd.slice 59 k59) 24 w' w.heap.size (fun _ => True) v972 t970) ∧ Aside0 (Kd.R (Kd.int .i64) 2 w' w.heap.size (fun _ => True) v6 x6_1) ∧ Aside0 (Below w.heap.size w w'))
 case atStart => exact ⟨(y974), (0), zr, H', ⟨Nat.le_refl _⟩, ⟨mS_ HO973.out⟩, ⟨mR_ HO976.out⟩, ⟨zb⟩⟩
 case round =>
  clear H'
  try clear c2
  try clear p2
  try clear c3
  try clear c5
  try clear c6
  obtain ⟨x6_1, x7_1, rfl, HA, HK1, HO_4, HO_6, HB⟩ := hrel
  cases gk with
  | zero => exact absurd HA.out (by simp [spec_HexSymmetries.l0])
  | succ k1 =>
   have H := HA.out
   clear HA
   simp only [spec_HexSymmetries.l0] at H
   by_cases c10 : x7_1 < 12
   rotate_left
   ·rw [if_neg c10] at H
    have c10b0 : decide (x7_1 < 12) = false := decide_eq_false c10
    clear c10
    simp only [Option.some.injEq, Prod.mk.injEq] at H
    obtain ⟨rfl, rfl⟩ := H
    go_wp2
    go_ret2
    exact ⟨_, zw, mR_ HO_6.out, zb⟩
   rw [if_pos c10] at H
   have c10b0 : decide (x7_1 < 12) = true := decide_eq_true c10
   clear c10
   by_cases c11 : 0 ≤ x7_1
   rotate_left
   ·rw [if_neg c11] at H
    exact absurd H (by simp)
   rw [if_pos c11] at H
   have c11b0 : decide (0 ≤ x7_1) = true := decide_eq_true c11
   clear c11
   by_cases c12 : x7_1 < (t970.length : Int)
   rotate_left
   ·rw [if_neg c12] at H
    exact absurd H (by simp)
   rw [if_pos c12] at H
   have c12b0 : decide (x7_1 < (t970.length : Int)) = true := decide_eq_true c12
   clear c12
   by_cases c13 : 0 < (t970.length : Int)
   rotate_left
   ·rw [if_neg c13] at H
    exact absurd H (by simp)
   rw [if_pos c13] at H
   have c13b0 : decide (0 < (t970.length : Int)) = true := decide_eq_true c13
   have c13b1 : decide (0 < t970.length) = true := decide_eq_true (by omega)
   clear c13
   replace H := Option.bind_eq_some_iff.mp H
   obtain ⟨t979, A140, H⟩ := H
   replace H : (if t979 = 0 then (if x6_1.length < 17592186044416 then (spec_HexSymmetries.l0 k1 t970 (x6_1 ++ [x7_1]) (wrap64 (x7_1 + 1))) else (none)) else (spec_HexSymmetries.l0 k1 t970 x6_1 (wrap64 (x7_1 + 1)))) = some (r1, r2) := H
   have A14 := aM A140
   clear A140
   by_cases c15 : t979 = 0
   rotate_left
   ·rw [if_neg c15] at H
    have c15b0 : (t979 == 0) = false := beq_eq_false_iff_ne.mpr c15
    have c15b1 : (t979 != 0) = true := bne_iff_ne.mpr c15
    have H' := aM H
    clear H
    try go_wp2
    have n0_ := aM (Kd.S_drew HO_4.out)
    have n1_ := aM (Kd.R_drew HO_6.out)
    have n2_ := aM (below_drew1 HB.out)
    clear HO_4
    clear HO_6
    clear HB
    have HO_4 := n0_
    have HO_6 := n1_
    have HB := n2_
    clear n0_ n1_ n2_
    obtain ⟨Ao22, co22, eo22⟩ := Kd.S_slice HO_4.out
    (first | subst eo22 | (injection eo22 with f1_ f2_ f3_; have f4_ := f1_.symm; have f5_ := f3_.symm; clear f1_ f2_ f3_; subst f4_; subst f5_))
    have p977 : 0 ≤ (x7_1 : Int) := of_decide_eq_true za
    have q977 : x7_1 < (t970.length : Int) := of_decide_eq_true za
    obtain ⟨ad977, A977_0, c977_0, e977, hx977_0, hl977_0, hi977_0⟩ := at_L2 (Kd.S_reads' HO_4.out).2.2 x7_1 p977 q977
    cases e977
    obtain ⟨ce977, hce977, hMe977, hcc977⟩ := Kd.S_get HO_4.out [] x7_1 p977 (by first | exact q977 | exact of_decide_eq_true za | (have e_ := (Kd.S_reads' HO_4.out).1; omega))
    obtain ⟨ve977_0, rfl, ge977_0⟩ := hMe977
    have hv977_0 := hcc977 0 _ rfl
    rw [Nat.add_zero, show ((Kd.slice 59 k59)).sz = 1 from rfl, Nat.mul_one] at hv977_0
    replace hv977_0 := Option.some.inj (hv977_0.symm.trans hx977_0)
    rw [hv977_0] at ge977_0
    have HL977_0 := aM (show Kd.R k59 59 _ _ _ _ (rd_L2 t970 x7_1) from ge977_0)
    clear hv977_0 ge977_0
    clear hcc977 hce977
    have HR977_0 := aM hi977_0
    have HC977_0 := aM hl977_0
    clear hi977_0 hl977_0
    replace p977 := eq_true p977
    replace q977 := eq_true q977
    have p978 : 0 ≤ (0 : Int) := (by omega)
    have q978 : 0 < (t970.length : Int) := of_decide_eq_true za
    obtain ⟨ad978, A978_0, c978_0, e978, hx978_0, hl978_0, hi978_0⟩ := at_L2 (Kd.S_reads' HO_4.out).2.2 0 p978 q978
    obtain rfl : ad977 = ad978 := (by injection e978)
    obtain ⟨ce978, hce978, hMe978, hcc978⟩ := Kd.S_get HO_4.out [] 0 p978 (by first | exact q978 | exact of_decide_eq_true za | (have e_ := (Kd.S_reads' HO_4.out).1; omega))
    obtain ⟨ve978_0, rfl, ge978_0⟩ := hMe978
    have hv978_0 := hcc978 0 _ rfl
    rw [Nat.add_zero, show ((Kd.slice 59 k59)).sz = 1 from rfl, Nat.mul_one] at hv978_0
    replace hv978_0 := Option.some.inj (hv978_0.symm.trans hx978_0)
    rw [hv978_0] at ge978_0
    have HL978_0 := aM (show Kd.R k59 59 _ _ _ _ (rd_L2 t970 0) from ge978_0)
    clear hv978_0 ge978_0
    clear hcc978 hce978
    have qi978 : (0 < t970.length) = True := eq_true (by omega)
    (try rw [show ((0 : Int)).toNat = 0 from rfl] at hx978_0)
    (try rw [Addr.add_zero'] at hx978_0)
    have HR978_0 := aM hi978_0
    have HC978_0 := aM hl978_0
    clear hi978_0 hl978_0
    replace p978 := eq_true p978
    replace q978 := eq_true q978
    refine start_ (n := 9) (S := fun w' => w'.cell? (ad977.add (x7_1).toNat) = some (.slice A977_0 (rd_L2 t970 x7_1).length c977_0) ∧ w'.cell? ad977 = some (.slice A978_0 (rd_L2 t970 0).length c978_0)) (ds := []) zA136 (by kernel_rfl) rfl rfl ⟨hx977_0, hx978_0⟩ (fun hHeld => ?_); refine with_tabW spec_HexSymmetries.tab10 spec_HexSymmetries.bits10 (fun HT_ HW_ => ?_)
    generalize wr.drew = w21 at HO_4 HO_6 HB HL977_0 HL978_0 HR977_0 HR978_0 hx977_0 hx978_0 hHeld ⊢
    refine zp 0 (some 23) ?_ zA137 rfl rfl (Or.inl ⟨by rfl, ?_⟩) ?_ ?_ ?_
    rotate_left
    ·intro w'
     go_simp
     with_reducible rfl
    rotate_left
    ·simp only [Act.put, xA, xB, xC, i64_w, i32_w]
     rfl
    refine zp 1 (some 24) ?_ zA138 rfl rfl (Or.inl ⟨by rfl, ?_⟩) ?_ ?_ ?_
    rotate_left
    ·intro w'
     go_simp
     with_reducible rfl
    rotate_left
    ·simp only [Act.put, xA, xB, xC, i64_w, i32_w]
     rfl
    refine zp 2 (some 25) ?_ zA139 rfl rfl (Or.inl ⟨by rfl, ?_⟩) ?_ ?_ ?_
    rotate_left
    ·intro w'
     go_simp
     with_reducible rfl
    rotate_left
    ·simp only [Act.put, xA, xB, xC, i64_w, i32_w]
     rfl
    refine zp 4 (some 27) ?_ zA140 rfl rfl (Or.inl ⟨by rfl, ?_⟩) ?_ ?_ ?_
    rotate_left
    ·intro w'
     go_simp
     with_reducible rfl
    rotate_left
    ·simp only [Act.put, xA, xB, xC, i64_w, i32_w]
     rfl
    refine zp 5 (some 28) ?_ #[true, true, true, false, true, true, false, false, false] rfl rfl (Or.inl ⟨by rfl, ?_⟩) ?_ ?_ ?_
    rotate_left
    ·intro w'
     go_simp
     with_reducible rfl
    rotate_left
    ·simp only [Act.put, xA, xB, xC, i64_w, i32_w]
     rfl
    refine zu 3 (some 26) ?_ #[true, true, true, true, true, true, false, false, false] rfl rfl (Or.inl ⟨by rfl, ?_⟩) hHeld ?_ ?_ ?_
    rotate_left
    ·rintro w' ⟨s0, s1⟩
     go_simp
     with_reducible rfl
    rotate_left
    ·simp only [Act.put, xA, xB, xC, i64_w, i32_w]
     rfl
    refine zu 6 (some 29) ?_ #[true, true, true, true, true, true, true, false, false] rfl rfl (Or.inl ⟨by rfl, ?_⟩) hHeld ?_ ?_ ?_
    rotate_left
    ·rintro w' ⟨s0, s1⟩
     go_simp
     with_reducible rfl
    rotate_left
    ·simp only [Act.put, xA, xB, xC, i64_w, i32_w]
     rfl
    refine one_ (i := 7) (N := some 30) #[true, true, true, true, true, true, true, true, false] rfl rfl (one_of HT_.out (by kernel_rfl)) (by decide) (fun K hK => ?_)
    refine goes_ Try.func70 (by kernel_rfl) rfl #[.slice A977_0 (rd_L2 t970 x7_1).length c977_0, .slice A978_0 (rd_L2 t970 0).length c978_0] (by rfl) rfl rfl zm ?_
    with_reducible refine (spec_CompareShapes.calls k1 _ _ (rd_L2 t970 x7_1) _ _ (rd_L2 t970 0) t979 _ ?side1 ?side2 ?side3 ?side4 A14.out).mono ?_
    (case side1 => repeat (first | exact (mQ_ HR977_0.out) | (with_reducible refine Kd.C_alloc ?_ _) | (with_reducible refine Kd.C_drewN ?_ _) | (with_reducible refine Kd.C_drew ?_)))
    (case side2 => exact HC977_0.out)
    (case side3 => repeat (first | exact (mQ_ HR978_0.out) | (with_reducible refine Kd.C_alloc ?_ _) | (with_reducible refine Kd.C_drewN ?_ _) | (with_reducible refine Kd.C_drew ?_)))
    (case side4 => exact HC978_0.out)
    rintro e w23 ⟨rfl, hb⟩
    have HS0_ := zk hb (hHeld.1)
    have HS1_ := zk hb (hHeld.2)
    refine ⟨_, rfl, ?_⟩
    have n0_ := aM (Kd.S_below (mS_ HO_4.out) hb)
    have n1_ := aM (Kd.R_below (mR_ HO_6.out) hb)
    have n2_ := aM (Kd.R_below (mR_ HL977_0.out) hb)
    have n3_ := aM (Kd.R_below (mR_ HL978_0.out) hb)
    have n4_ := aM (Kd.C_below (mQ_ HR977_0.out) hb)
    have n5_ := aM (Kd.C_below (mQ_ HR978_0.out) hb)
    have n6_ := aM (below_step zb hb)
    clear HO_4
    clear HO_6
    clear HL977_0
    clear HL978_0
    clear HR977_0
    clear HR978_0
    clear HB
    have HO_4 := n0_
    have HO_6 := n1_
    have HL977_0 := n2_
    have HL978_0 := n3_
    have HR977_0 := n4_
    have HR978_0 := n5_
    have HB := n6_
    clear n0_ n1_ n2_ n3_ n4_ n5_ n6_
    (try clear hb)
    (try clear hb2)
    (try clear hk)
    (try clear hi)
    refine hK.out _ _ ⟨HS0_, HS1_⟩ (fun hHeld => ?_)
    clear hK K
    refine norm_ (a' := ?_) ?_ ?_
    rotate_left
    ·show Act.put _ (some 30) _ = _
     simp only [Act.put, xA, xB, xC, i64_w, i32_w]
     rfl
    refine zp 8 (some 31) ?_ #[true, true, true, true, true, true, true, true, true] rfl rfl (Or.inl ⟨by rfl, ?_⟩) ?_ ?_ ?_
    rotate_left
    ·intro w'
     go_simp
     with_reducible rfl
    rotate_left
    ·simp only [Act.put, xA, xB, xC, i64_w, i32_w]
     rfl
    refine done_ (done_of HT_.out (by kernel_rfl)) ?_
    try go_wp2
    go_roundg k1
    case measure => have := HK1.out; omega
    case rel => exact ⟨(x6_1), (wrap64 (x7_1 + 1)), zr, H', ⟨by have := HK1.out; omega⟩, ⟨mS_ HO_4.out⟩, ⟨mR_ HO_6.out⟩, ⟨zb⟩⟩
   rw [if_pos c15] at H
   have c15b0 : (t979 == 0) = true := beq_iff_eq.mpr c15
   have c15b1 : (t979 != 0) = false := bne_eq_false_iff_eq.mpr c15
   clear c15
   by_cases c16 : x6_1.length < 17592186044416
   rotate_left
   ·rw [if_neg c16] at H
    exact absurd H (by simp)
   rw [if_pos c16] at H
   have LMc16 := aM c16
   clear c16
   obtain ⟨y980, hy980⟩ : ∃ y_ : List Int, y_ = (x6_1 ++ [x7_1]) := ⟨_, rfl⟩
   replace H : (spec_HexSymmetries.l0 k1 t970 y980 (wrap64 (x7_1 + 1))) = some (r1, r2) := zy H hy980
   have Ny980 := aM hy980
   clear hy980
   have H' := aM H
   clear H
   try go_wp2
   have n0_ := aM (Kd.S_drew HO_4.out)
   have n1_ := aM (Kd.R_drew HO_6.out)
   have n2_ := aM (below_drew1 HB.out)
   clear HO_4
   clear HO_6
   clear HB
   have HO_4 := n0_
   have HO_6 := n1_
   have HB := n2_
   clear n0_ n1_ n2_
   obtain ⟨Ao18, co18, eo18⟩ := Kd.S_slice HO_4.out
   (first | subst eo18 | (injection eo18 with f1_ f2_ f3_; have f4_ := f1_.symm; have f5_ := f3_.symm; clear f1_ f2_ f3_; subst f4_; subst f5_))
   have p977 : 0 ≤ (x7_1 : Int) := of_decide_eq_true za
   have q977 : x7_1 < (t970.length : Int) := of_decide_eq_true za
   obtain ⟨ad977, A977_0, c977_0, e977, hx977_0, hl977_0, hi977_0⟩ := at_L2 (Kd.S_reads' HO_4.out).2.2 x7_1 p977 q977
   cases e977
   obtain ⟨ce977, hce977, hMe977, hcc977⟩ := Kd.S_get HO_4.out [] x7_1 p977 (by first | exact q977 | exact of_decide_eq_true za | (have e_ := (Kd.S_reads' HO_4.out).1; omega))
   obtain ⟨ve977_0, rfl, ge977_0⟩ := hMe977
   have hv977_0 := hcc977 0 _ rfl
   rw [Nat.add_zero, show ((Kd.slice 59 k59)).sz = 1 from rfl, Nat.mul_one] at hv977_0
   replace hv977_0 := Option.some.inj (hv977_0.symm.trans hx977_0)
   rw [hv977_0] at ge977_0
   have HL977_0 := aM (show Kd.R k59 59 _ _ _ _ (rd_L2 t970 x7_1) from ge977_0)
   clear hv977_0 ge977_0
   clear hcc977 hce977
   have HR977_0 := aM hi977_0
   have HC977_0 := aM hl977_0
   clear hi977_0 hl977_0
   replace p977 := eq_true p977
   replace q977 := eq_true q977
   have p978 : 0 ≤ (0 : Int) := (by omega)
   have q978 : 0 < (t970.length : Int) := of_decide_eq_true za
   obtain ⟨ad978, A978_0, c978_0, e978, hx978_0, hl978_0, hi978_0⟩ := at_L2 (Kd.S_reads' HO_4.out).2.2 0 p978 q978
   obtain rfl : ad977 = ad978 := (by injection e978)
   obtain ⟨ce978, hce978, hMe978, hcc978⟩ := Kd.S_get HO_4.out [] 0 p978 (by first | exact q978 | exact of_decide_eq_true za | (have e_ := (Kd.S_reads' HO_4.out).1; omega))
   obtain ⟨ve978_0, rfl, ge978_0⟩ := hMe978
   have hv978_0 := hcc978 0 _ rfl
   rw [Nat.add_zero, show ((Kd.slice 59 k59)).sz = 1 from rfl, Nat.mul_one] at hv978_0
   replace hv978_0 := Option.some.inj (hv978_0.symm.trans hx978_0)
   rw [hv978_0] at ge978_0
   have HL978_0 := aM (show Kd.R k59 59 _ _ _ _ (rd_L2 t970 0) from ge978_0)
   clear hv978_0 ge978_0
   clear hcc978 hce978
   have qi978 : (0 < t970.length) = True := eq_true (by omega)
   (try rw [show ((0 : Int)).toNat = 0 from rfl] at hx978_0)
   (try rw [Addr.add_zero'] at hx978_0)
   have HR978_0 := aM hi978_0
   have HC978_0 := aM hl978_0
   clear hi978_0 hl978_0
   replace p978 := eq_true p978
   replace q978 := eq_true q978
   refine start_ (n := 9) (S := fun w' => w'.cell? (ad977.add (x7_1).toNat) = some (.slice A977_0 (rd_L2 t970 x7_1).length c977_0) ∧ w'.cell? ad977 = some (.slice A978_0 (rd_L2 t970 0).length c978_0)) (ds := []) zA136 (by kernel_rfl) rfl rfl ⟨hx977_0, hx978_0⟩ (fun hHeld => ?_); refine with_tabW spec_HexSymmetries.tab10 spec_HexSymmetries.bits10 (fun HT_ HW_ => ?_)
   generalize wr.drew = w17 at HO_4 HO_6 HB HL977_0 HL978_0 HR977_0 HR978_0 hx977_0 hx978_0 hHeld ⊢
   refine zp 0 (some 23) ?_ zA137 rfl rfl (Or.inl ⟨by rfl, ?_⟩) ?_ ?_ ?_
   rotate_left
   ·intro w'
    go_simp
    with_reducible rfl
   rotate_left
   ·simp only [Act.put, xA, xB, xC, i64_w, i32_w]
    rfl
   refine zp 1 (some 24) ?_ zA138 rfl rfl (Or.inl ⟨by rfl, ?_⟩) ?_ ?_ ?_
   rotate_left
   ·intro w'
    go_simp
    with_reducible rfl
   rotate_left
   ·simp only [Act.put, xA, xB, xC, i64_w, i32_w]
    rfl
   refine zp 2 (some 25) ?_ zA139 rfl rfl (Or.inl ⟨by rfl, ?_⟩) ?_ ?_ ?_
   rotate_left
   ·intro w'
    go_simp
    with_reducible rfl
   rotate_left
   ·simp only [Act.put, xA, xB, xC, i64_w, i32_w]
    rfl
   refine zp 4 (some 27) ?_ zA140 rfl rfl (Or.inl ⟨by rfl, ?_⟩) ?_ ?_ ?_
   rotate_left
   ·intro w'
    go_simp
    with_reducible rfl
   rotate_left
   ·simp only [Act.put, xA, xB, xC, i64_w, i32_w]
    rfl
   refine zp 5 (some 28) ?_ #[true, true, true, false, true, true, false, false, false] rfl rfl (Or.inl ⟨by rfl, ?_⟩) ?_ ?_ ?_
   rotate_left
   ·intro w'
    go_simp
    with_reducible rfl
   rotate_left
   ·simp only [Act.put, xA, xB, xC, i64_w, i32_w]
    rfl
   refine zu 3 (some 26) ?_ #[true, true, true, true, true, true, false, false, false] rfl rfl (Or.inl ⟨by rfl, ?_⟩) hHeld ?_ ?_ ?_
   rotate_left
   ·rintro w' ⟨s0, s1⟩
    go_simp
    with_reducible rfl
   rotate_left
   ·simp only [Act.put, xA, xB, xC, i64_w, i32_w]
    rfl
   refine zu 6 (some 29) ?_ #[true, true, true, true, true, true, true, false, false] rfl rfl (Or.inl ⟨by rfl, ?_⟩) hHeld ?_ ?_ ?_
   rotate_left
   ·rintro w' ⟨s0, s1⟩
    go_simp
    with_reducible rfl
   rotate_left
   ·simp only [Act.put, xA, xB, xC, i64_w, i32_w]
    rfl
   refine one_ (i := 7) (N := some 30) #[true, true, true, true, true, true, true, true, false] rfl rfl (one_of HT_.out (by kernel_rfl)) (by decide) (fun K hK => ?_)
   refine goes_ Try.func70 (by kernel_rfl) rfl #[.slice A977_0 (rd_L2 t970 x7_1).length c977_0, .slice A978_0 (rd_L2 t970 0).length c978_0] (by rfl) rfl rfl zm ?_
   with_reducible refine (spec_CompareShapes.calls k1 _ _ (rd_L2 t970 x7_1) _ _ (rd_L2 t970 0) t979 _ ?side1 ?side2 ?side3 ?side4 A14.out).mono ?_
   (case side1 => repeat (first | exact (mQ_ HR977_0.out) | (with_reducible refine Kd.C_alloc ?_ _) | (with_reducible refine Kd.C_drewN ?_ _) | (with_reducible refine Kd.C_drew ?_)))
   (case side2 => exact HC977_0.out)
   (case side3 => repeat (first | exact (mQ_ HR978_0.out) | (with_reducible refine Kd.C_alloc ?_ _) | (with_reducible refine Kd.C_drewN ?_ _) | (with_reducible refine Kd.C_drew ?_)))
   (case side4 => exact HC978_0.out)
   rintro e w19 ⟨rfl, hb⟩
   have HS0_ := zk hb (hHeld.1)
   have HS1_ := zk hb (hHeld.2)
   refine ⟨_, rfl, ?_⟩
   have n0_ := aM (Kd.S_below (mS_ HO_4.out) hb)
   have n1_ := aM (Kd.R_below (mR_ HO_6.out) hb)
   have n2_ := aM (Kd.R_below (mR_ HL977_0.out) hb)
   have n3_ := aM (Kd.R_below (mR_ HL978_0.out) hb)
   have n4_ := aM (Kd.C_below (mQ_ HR977_0.out) hb)
   have n5_ := aM (Kd.C_below (mQ_ HR978_0.out) hb)
   have n6_ := aM (below_step zb hb)
   clear HO_4
   clear HO_6
   clear HL977_0
   clear HL978_0
   clear HR977_0
   clear HR978_0
   clear HB
   have HO_4 := n0_
   have HO_6 := n1_
   have HL977_0 := n2_
   have HL978_0 := n3_
   have HR977_0 := n4_
   have HR978_0 := n5_
   have HB := n6_
   clear n0_ n1_ n2_ n3_ n4_ n5_ n6_
   (try clear hb)
   (try clear hb2)
   (try clear hk)
   (try clear hi)
   refine hK.out _ _ ⟨HS0_, HS1_⟩ (fun hHeld => ?_)
   clear hK K
   refine norm_ (a' := ?_) ?_ ?_
   rotate_left
   ·show Act.put _ (some 30) _ = _
    simp only [Act.put, xA, xB, xC, i64_w, i32_w]
    rfl
   refine zp 8 (some 31) ?_ #[true, true, true, true, true, true, true, true, true] rfl rfl (Or.inl ⟨by rfl, ?_⟩) ?_ ?_ ?_
   rotate_left
   ·intro w'
    go_simp
    with_reducible rfl
   rotate_left
   ·simp only [Act.put, xA, xB, xC, i64_w, i32_w]
    rfl
   refine done_ (done_of HT_.out (by kernel_rfl)) ?_
   try go_wp2_with (first | ((with_reducible refine gate_builtin (b := .append) (xs := #[.tmp 32, .tmp 34]) rfl ?_); at_builtin; refine Kd.R_append (Kd.int .i64) (w0 := w) w.heap.size rfl (.tmp 32) (.tmp 34) 40 2 (.int .i64 0) 8 rfl Try.underlying40 info2 rfl (by decide) (by omega) u6 x6_1 x7_1 [.int .i64 x7_1] (fun _ => True) (fun _ => False) rfl rfl ?aP (fun _ hk => hk.elim) ?aF ?aO ?aB ?aS ?aL ?_; (case aP => exact rfl); (case aB => exact zb); (case aF => exact (fun _ _ => trivial)); (case aO => exact (mR_ HO_6.out)); (case aS => exact (below_size zb)); (case aL => have := LMc16.out; omega); intro v981 w20 ho hb hg hat; rw [← Ny980.out] at ho; have n0_ := aM (Kd.S_over' (mS_ HO_4.out) (Kd.R_typed (mR_ HO_6.out)) (by decide) hg); have n1_ := aM (Kd.R_over' (mR_ HL977_0.out) (Kd.R_typed (mR_ HO_6.out)) (by decide) hg); have n2_ := aM (Kd.R_over' (mR_ HL978_0.out) (Kd.R_typed (mR_ HO_6.out)) (by decide) hg); have n3_ := aM (hb); have n4_ := aM (ho); clear HO_4 HL977_0 HL978_0 HB HO_6; have HO_4 := n0_; have HL977_0 := n1_; have HL978_0 := n2_; have HB := n3_; have HO982 := n4_; clear n0_ n1_ n2_ n3_ n4_; clear ho hb hg hat))
   go_roundg k1
   case measure => have := HK1.out; omega
   case rel => exact ⟨(y980), (wrap64 (x7_1 + 1)), zr, H', ⟨by have := HK1.out; omega⟩, ⟨mS_ HO_4.out⟩, ⟨mR_ HO982.out⟩, ⟨zb⟩⟩
def impl_HexFree.f (k : Nat) (l0 : List (S59)) : Option ((List (S59)) × Int) := (impl_IsShape.f k l0).bind fun t983 => (if t983 = true then ((impl_leastForm__impl_hexForm.f k l0).bind fun bt984 => (if bt984.2 = true then (some (bt984.1, 0)) else (some (([] : List (S59)), 3)))) else (some (([] : List (S59)), 1)))
theorem impl_HexFree.calls (k : Nat) (A0 : Option Addr) (c0 : Nat) (l0 : List (S59)) (r1 : List (S59)) (r2 : Int) (w : World) (hr0 : Kd.C k59 w A0 l0.length l0) (hc0 : l0.length ≤ c0) (h : impl_HexFree.f k l0 = some (r1, r2)) :
  Calls Try.prog 27 #[.slice A0 l0.length c0] w fun e w' => ∃ v0_ : Value, e = .returned (.tuple #[v0_, .int .i64 r2]) ∧ Kd.R k59 59 w' w.heap.size (fun _ => True) v0_ r1 ∧ Below w.heap.size w w' := by
 have HR0 := aM hr0
 have HC0 := aM hc0
 clear hr0 hc0
 have HB := aM (Below.refl w.heap.size w)
 have H : ((impl_IsShape.f k l0).bind fun t983 => (if t983 = true then ((impl_leastForm__impl_hexForm.f k l0).bind fun bt984 => (if bt984.2 = true then (some (bt984.1, 0)) else (some (([] : List (S59)), 3)))) else (some (([] : List (S59)), 1)))) = some (r1, r2) := h
 clear h
 replace H := Option.bind_eq_some_iff.mp H
 obtain ⟨t983, A20, H⟩ := H
 replace H : (if t983 = true then ((impl_leastForm__impl_hexForm.f k l0).bind fun bt984 => (if bt984.2 = true then (some (bt984.1, 0)) else (some (([] : List (S59)), 3)))) else (some (([] : List (S59)), 1))) = some (r1, r2) := H
 have A2 := aM A20
 clear A20
 by_cases c3 : t983 = true
 rotate_left
 ·replace c3 := Bool.eq_false_iff.mpr c3
  subst c3
  have H1 : (some (([] : List (S59)), 1)) = some (r1, r2) := by rw [if_neg (show ¬ (false = true) by decide)] at H; exact H
  clear H
  have H := H1
  clear H1
  simp only [Option.some.injEq, Prod.mk.injEq] at H
  obtain ⟨rfl, rfl⟩ := H
  go_enter Try.func27, Try.ntmps27
  go_wp2_with (first | ((with_reducible refine gate_callee (f := 40) rfl ?_); refine goesL_ (some 7) rfl rfl Try.func40 (by kernel_rfl) rfl #[.slice A0 l0.length c0] rfl zm ?_; (with_reducible refine (impl_IsShape.calls k _ _ l0 false _ ?side1 ?side2 A2.out).mono ?_); (case side1 => repeat (first | exact HR0.out | (with_reducible refine Kd.C_alloc ?_ _) | (with_reducible refine Kd.C_drewN ?_ _) | (with_reducible refine Kd.C_drew ?_))); (case side2 => exact HC0.out); rintro e w10 ⟨rfl, hb⟩; refine ⟨_, rfl, ?_⟩; have n0_ := aM (below_step zb hb); clear HB; have HB := n0_; clear n0_; (try clear hb); (try clear hb2); (try clear hk); (try clear hi)))
  go_ret2
  exact ⟨_, zw, by first | exact Kd.R_nil _ _ _ _ _ | exact Kd.N_nil _ _ _ _ _ | exact Kd.V_nil _ _ _ _ _ | exact Kd.Q_nil _ _ _ _ _ | exact Kd.S_nil _ _ _ _ _, zb⟩
 subst c3
 have H1 : ((impl_leastForm__impl_hexForm.f k l0).bind fun bt984 => (if bt984.2 = true then (some (bt984.1, 0)) else (some (([] : List (S59)), 3)))) = some (r1, r2) := by rw [if_pos rfl] at H; exact H
 clear H
 have H := H1
 clear H1
 replace H := Option.bind_eq_some_iff.mp H
 obtain ⟨⟨t984, t985⟩, A40, H⟩ := H
 replace H : (if t985 = true then (some (t984, 0)) else (some (([] : List (S59)), 3))) = some (r1, r2) := H
 have A4 := aM A40
 clear A40
 by_cases c5 : t985 = true
 ·subst c5
  have H1 : (some (t984, 0)) = some (r1, r2) := by rw [if_pos rfl] at H; exact H
  clear H
  have H := H1
  clear H1
  simp only [Option.some.injEq, Prod.mk.injEq] at H
  obtain ⟨rfl, rfl⟩ := H
  go_enter Try.func27, Try.ntmps27
  go_wp2_with (first | ((with_reducible refine gate_callee (f := 40) rfl ?_); refine goesL_ (some 7) rfl rfl Try.func40 (by kernel_rfl) rfl #[.slice A0 l0.length c0] rfl zm ?_; (with_reducible refine (impl_IsShape.calls k _ _ l0 true _ ?side1 ?side2 A2.out).mono ?_); (case side1 => repeat (first | exact HR0.out | (with_reducible refine Kd.C_alloc ?_ _) | (with_reducible refine Kd.C_drewN ?_ _) | (with_reducible refine Kd.C_drew ?_))); (case side2 => exact HC0.out); rintro e w6 ⟨rfl, hb⟩; refine ⟨_, rfl, ?_⟩; have n0_ := aM (below_step zb hb); clear HB; have HB := n0_; clear n0_; (try clear hb); (try clear hb2); (try clear hk); (try clear hi)) | ((with_reducible refine gate_callee (f := 42) rfl ?_); refine goesL_ (some 11) rfl rfl Try.func42 (by kernel_rfl) rfl #[.slice A0 l0.length c0, .func (.func 55) #[] #[]] rfl zm ?_; (with_reducible refine (impl_leastForm__impl_hexForm.calls k _ _ l0  t984 true _ ?side1 ?side2 A4.out).mono ?_); (case side1 => repeat (first | exact (Kd.C_below HR0.out HB.out) | (with_reducible refine Kd.C_alloc ?_ _) | (with_reducible refine Kd.C_drewN ?_ _) | (with_reducible refine Kd.C_drew ?_))); (case side2 => exact HC0.out); rintro e w7 ⟨v986, rfl, ho0, hb⟩; refine ⟨_, rfl, ?_⟩; have n0_ := aM (Kd.R_lower ho0 (below_size zb)); have n1_ := aM (below_step zb hb); clear HB; have HO987 := n0_; have HB := n1_; clear n0_ n1_; (try clear hb); (try clear hb2); (try clear hk); (try clear hi); (try clear ho0)))
  go_ret2
  exact ⟨_, zw, mR_ HO987.out, zb⟩
 replace c5 := Bool.eq_false_iff.mpr c5
 subst c5
 have H1 : (some (([] : List (S59)), 3)) = some (r1, r2) := by rw [if_neg (show ¬ (false = true) by decide)] at H; exact H
 clear H
 have H := H1
 clear H1
 simp only [Option.some.injEq, Prod.mk.injEq] at H
 obtain ⟨rfl, rfl⟩ := H
 go_enter Try.func27, Try.ntmps27
 go_wp2_with (first | ((with_reducible refine gate_callee (f := 40) rfl ?_); refine goesL_ (some 7) rfl rfl Try.func40 (by kernel_rfl) rfl #[.slice A0 l0.length c0] rfl zm ?_; (with_reducible refine (impl_IsShape.calls k _ _ l0 true _ ?side1 ?side2 A2.out).mono ?_); (case side1 => repeat (first | exact HR0.out | (with_reducible refine Kd.C_alloc ?_ _) | (with_reducible refine Kd.C_drewN ?_ _) | (with_reducible refine Kd.C_drew ?_))); (case side2 => exact HC0.out); rintro e w8 ⟨rfl, hb⟩; refine ⟨_, rfl, ?_⟩; have n0_ := aM (below_step zb hb); clear HB; have HB := n0_; clear n0_; (try clear hb); (try clear hb2); (try clear hk); (try clear hi)) | ((with_reducible refine gate_callee (f := 42) rfl ?_); refine goesL_ (some 11) rfl rfl Try.func42 (by kernel_rfl) rfl #[.slice A0 l0.length c0, .func (.func 55) #[] #[]] rfl zm ?_; (with_reducible refine (impl_leastForm__impl_hexForm.calls k _ _ l0  t984 false _ ?side1 ?side2 A4.out).mono ?_); (case side1 => repeat (first | exact (Kd.C_below HR0.out HB.out) | (with_reducible refine Kd.C_alloc ?_ _) | (with_reducible refine Kd.C_drewN ?_ _) | (with_reducible refine Kd.C_drew ?_))); (case side2 => exact HC0.out); rintro e w9 ⟨v986, rfl, ho0, hb⟩; refine ⟨_, rfl, ?_⟩; have n0_ := aM (Kd.R_lower ho0 (below_size zb)); have n1_ := aM (below_step zb hb); clear HB; have HO987 := n0_; have HB := n1_; clear n0_ n1_; (try clear hb); (try clear hb2); (try clear hk); (try clear hi); (try clear ho0)))
 go_ret2
 exact ⟨_, zw, by first | exact Kd.R_nil _ _ _ _ _ | exact Kd.N_nil _ _ _ _ _ | exact Kd.V_nil _ _ _ _ _ | exact Kd.Q_nil _ _ _ _ _ | exact Kd.S_nil _ _ _ _ _, zb⟩
def spec_HexFree.f (k : Nat) (l0 : List (S59)) : Option ((List (S59)) × Int) := (spec_l07FreeCode.f k 1 l0).bind fun bt988 => (some (bt988.1, bt988.2))
theorem spec_HexFree.calls (k : Nat) (A0 : Option Addr) (c0 : Nat) (l0 : List (S59)) (r1 : List (S59)) (r2 : Int) (w : World) (hr0 : Kd.C k59 w A0 l0.length l0) (hc0 : l0.length ≤ c0) (h : spec_HexFree.f k l0 = some (r1, r2)) :
  Calls Try.prog 28 #[.slice A0 l0.length c0] w fun e w' => ∃ v0_ : Value, e = .returned (.tuple #[v0_, .int .i64 r2]) ∧ Kd.R k59 59 w' w.heap.size (fun _ => True) v0_ r1 ∧ Below w.heap.size w w' := by
 have HR0 := aM hr0
 have HC0 := aM hc0
 clear hr0 hc0
 have HB := aM (Below.refl w.heap.size w)
 have H : ((spec_l07FreeCode.f k 1 l0).bind fun bt988 => (some (bt988.1, bt988.2))) = some (r1, r2) := h
 clear h
 replace H := Option.bind_eq_some_iff.mp H
 obtain ⟨⟨t988, t989⟩, A20, H⟩ := H
 replace H : (some (t988, t989)) = some (r1, r2) := H
 have A2 := aM A20
 clear A20
 simp only [Option.some.injEq, Prod.mk.injEq] at H
 obtain ⟨rfl, rfl⟩ := H
 go_enter Try.func28, Try.ntmps28
 go_wp2_with (first | ((with_reducible refine gate_callee (f := 43) rfl ?_); refine goesL_ (some 5) rfl rfl Try.func43 (by kernel_rfl) rfl #[.int .i64 1, .slice A0 l0.length c0] rfl zm ?_; (with_reducible refine (spec_l07FreeCode.calls k 1 _ _ l0 t988 t989 _ ?side1 ?side2 A2.out).mono ?_); (case side1 => repeat (first | exact HR0.out | (with_reducible refine Kd.C_alloc ?_ _) | (with_reducible refine Kd.C_drewN ?_ _) | (with_reducible refine Kd.C_drew ?_))); (case side2 => exact HC0.out); rintro e w3 ⟨v990, rfl, ho0, hb⟩; refine ⟨_, rfl, ?_⟩; have n0_ := aM (Kd.R_lower ho0 (below_size zb)); have n1_ := aM (below_step zb hb); clear HB; have HO991 := n0_; have HB := n1_; clear n0_ n1_; (try clear hb); (try clear hb2); (try clear hk); (try clear hi); (try clear ho0)))
 go_ret2
 exact ⟨_, zw, mR_ HO991.out, zb⟩
def laws_likeInts.l0 : Nat → List Int → List Int → Int → Option (Bool)
 | 0, _, _, _ => none
 | k + 1, x0, x1, x5 => if x5 < (x0.length : Int) then (if 0 ≤ x5 then (if x5 < (x1.length : Int) then (if (rd x0 x5) = (rd x1 x5) then (laws_likeInts.l0 k x0 x1 (wrap64 (x5 + 1))) else (some false)) else (none)) else (none)) else (some true)
def laws_likeInts.f (k : Nat) (l0 : List Int) (l1 : List Int) : Option (Bool) := if (l0.length : Int) = (l1.length : Int) then (laws_likeInts.l0 k l0 l1 0) else (some false)
theorem laws_likeInts.calls (k : Nat) (A0 : Option Addr) (c0 : Nat) (l0 : List Int) (A1 : Option Addr) (c1 : Nat) (l1 : List Int) (r : Bool) (w : World) (hr0 : Kd.C (Kd.int .i64) w A0 l0.length l0) (hc0 : l0.length ≤ c0) (hr1 : Kd.C (Kd.int .i64) w A1 l1.length l1) (hc1 : l1.length ≤ c1) (h : laws_likeInts.f k l0 l1 = some r) :
  Calls Try.prog 29 #[.slice A0 l0.length c0, .slice A1 l1.length c1] w fun e w' => e = .returned (.bool r) ∧ Drawn0 w w' := by
 have HR0 := aM hr0
 have HC0 := aM hc0
 clear hr0 hc0
 have HR1 := aM hr1
 have HC1 := aM hc1
 clear hr1 hc1
 have H : (if (l0.length : Int) = (l1.length : Int) then (laws_likeInts.l0 k l0 l1 0) else (some false)) = some r := h
 clear h
 by_cases c3 : (l0.length : Int) = (l1.length : Int)
 rotate_left
 ·rw [if_neg c3] at H
  have c3b0 : ((l0.length : Int) == (l1.length : Int)) = false := beq_eq_false_iff_ne.mpr c3
  have c3b1 : ((l0.length : Int) != (l1.length : Int)) = true := bne_iff_ne.mpr c3
  have c3b2 : (l0.length == l1.length) = false := by first | simpa using c3 | (simp at c3 ⊢; omega)
  obtain rfl := Option.some.inj H
  go_enter Try.func29, Try.ntmps29
  go_wp2
  repeat (go_quiet (fail); try go_wp2)
  go_ret
  exact ⟨by first | rfl | (simp; done) | (simp [*]; done), by repeat (first | exact Drawn0.refl _ | apply Drawn0.step)⟩
 rw [if_pos c3] at H
 have c3b0 : ((l0.length : Int) == (l1.length : Int)) = true := beq_iff_eq.mpr c3
 have c3b1 : ((l0.length : Int) != (l1.length : Int)) = false := bne_eq_false_iff_eq.mpr c3
 have c3b2 : (l0.length == l1.length) = true := by first | simpa using c3 | (simp at c3 ⊢; omega)
 clear c3
 have H' := aM H
 clear H
 go_enter Try.func29, Try.ntmps29
 go_wp2
 repeat (go_quiet (fail); try go_wp2)
 go_loopg [5] k (fun kq v5 w' => ∃ (x5_1 : Int), v5 = .int .i64 x5_1 ∧ Aside0 (laws_likeInts.l0 kq l0 l1 x5_1 = some r) ∧ Aside0 (kq ≤ k) ∧ Drawn0 w w')
 case atStart => exact ⟨(0), zr, H', ⟨Nat.le_refl _⟩, by repeat (first | exact Drawn0.refl _ | apply Drawn0.step)⟩
 case round =>
  clear H'
  try clear c1
  try clear c2
  try clear p2
  try clear c3
  try clear c3b0
  try clear c3b1
  try clear c3b2
  obtain ⟨x5_1, rfl, HA, HK1, ⟨m1, rfl⟩⟩ := hrel
  cases gk with
  | zero => exact absurd HA.out (by simp [laws_likeInts.l0])
  | succ k1 =>
   have H := HA.out
   clear HA
   simp only [laws_likeInts.l0] at H
   by_cases c4 : x5_1 < (l0.length : Int)
   rotate_left
   ·rw [if_neg c4] at H
    have c4b0 : decide (x5_1 < (l0.length : Int)) = false := decide_eq_false c4
    clear c4
    obtain rfl := Option.some.inj H
    go_wp2
    repeat (go_quiet (fail); try go_wp2)
    go_ret
    exact ⟨by first | rfl | (simp; done) | (simp [*]; done), by repeat (first | exact Drawn0.refl _ | apply Drawn0.step)⟩
   rw [if_pos c4] at H
   have c4b0 : decide (x5_1 < (l0.length : Int)) = true := decide_eq_true c4
   clear c4
   by_cases c5 : 0 ≤ x5_1
   rotate_left
   ·rw [if_neg c5] at H
    exact absurd H (by simp)
   rw [if_pos c5] at H
   have c5b0 : decide (0 ≤ x5_1) = true := decide_eq_true c5
   clear c5
   by_cases c6 : x5_1 < (l1.length : Int)
   rotate_left
   ·rw [if_neg c6] at H
    exact absurd H (by simp)
   rw [if_pos c6] at H
   have c6b0 : decide (x5_1 < (l1.length : Int)) = true := decide_eq_true c6
   clear c6
   by_cases c7 : (rd l0 x5_1) = (rd l1 x5_1)
   rotate_left
   ·rw [if_neg c7] at H
    have c7b0 : ((rd l0 x5_1) == (rd l1 x5_1)) = false := beq_eq_false_iff_ne.mpr c7
    have c7b1 : ((rd l0 x5_1) != (rd l1 x5_1)) = true := bne_iff_ne.mpr c7
    obtain rfl := Option.some.inj H
    have p992 : 0 ≤ (x5_1 : Int) := of_decide_eq_true za
    have q992 : x5_1 < (l0.length : Int) := of_decide_eq_true za
    obtain ⟨ad992, e992, hx992_0⟩ := Kd.at_int HR0.out x5_1 p992 q992
    cases e992
    replace p992 := eq_true p992
    replace q992 := eq_true q992
    have p993 : 0 ≤ (x5_1 : Int) := of_decide_eq_true za
    have q993 : x5_1 < (l1.length : Int) := of_decide_eq_true za
    obtain ⟨ad993, e993, hx993_0⟩ := Kd.at_int HR1.out x5_1 p993 q993
    cases e993
    replace p993 := eq_true p993
    replace q993 := eq_true q993
    go_wp2
    repeat (go_quiet (fail); try go_wp2)
    go_ret
    exact ⟨by first | rfl | (simp; done) | (simp [*]; done), by repeat (first | exact Drawn0.refl _ | apply Drawn0.step)⟩
   rw [if_pos c7] at H
   have c7b0 : ((rd l0 x5_1) == (rd l1 x5_1)) = true := beq_iff_eq.mpr c7
   have c7b1 : ((rd l0 x5_1) != (rd l1 x5_1)) = false := bne_eq_false_iff_eq.mpr c7
   clear c7
   have H' := aM H
   clear H
   have p992 : 0 ≤ (x5_1 : Int) := of_decide_eq_true za
   have q992 : x5_1 < (l0.length : Int) := of_decide_eq_true za
   obtain ⟨ad992, e992, hx992_0⟩ := Kd.at_int HR0.out x5_1 p992 q992
   cases e992
   replace p992 := eq_true p992
   replace q992 := eq_true q992
   have p993 : 0 ≤ (x5_1 : Int) := of_decide_eq_true za
   have q993 : x5_1 < (l1.length : Int) := of_decide_eq_true za
   obtain ⟨ad993, e993, hx993_0⟩ := Kd.at_int HR1.out x5_1 p993 q993
   cases e993
   replace p993 := eq_true p993
   replace q993 := eq_true q993
   go_wp2
   repeat (go_quiet (fail); try go_wp2)
   go_roundg k1
   case measure => have := HK1.out; omega
   case rel => exact ⟨(wrap64 (x5_1 + 1)), zr, H', ⟨by have := HK1.out; omega⟩, by repeat (first | exact Drawn0.refl _ | apply Drawn0.step)⟩
end Go.Proofs.Ytlnliahadgmbcaa.F
end
section
namespace Go.Proofs.Ytlnliahadgmbcaa.F
open Go.RowKit Go.Proofs.YtlnliahadgmbcaaW.PrintWords Go.Proofs.YtlnliahadgmbcaaW.PrintLast Go.Proofs.YtlnliahadgmbcaaW.PrintMore
attribute [local go_sem] max2_int min2_int max_two min_two max_three min_three max_four min_four
set_option linter.unusedVariables false
set_option linter.unusedSimpArgs false
mutual
def impl_parts__impl_hexAround.l0 : Nat → List (S59) → List Int → List (S59) → Int → Int → Option (List Int)
 | 0, _, _, _, _, _ => none
 | k + 1, x0, x6, x20, x21, x22 => if x22 < x21 then (if 0 ≤ x22 then (if x22 < (x20.length : Int) then (if x22 < (x6.length : Int) then (impl_parts__impl_hexAround.l0 k x0 (x6.set (x22 : Int).toNat (-1)) x20 x21 (wrap64 (x22 + 1))) else (none)) else (none)) else (none)) else (impl_parts__impl_hexAround.l1 k x0 x6 (x0.length : Int) 0)
def impl_parts__impl_hexAround.l1 : Nat → List (S59) → List Int → Int → Int → Option (List Int)
 | 0, _, _, _, _ => none
 | k + 1, x0, x6, x35, x36 => if x36 < x35 then (if 0 ≤ x36 then (if x36 < (x6.length : Int) then (if (rd x6 x36) ≥ 0 then (impl_parts__impl_hexAround.l1 k x0 x6 x35 (wrap64 (x36 + 1))) else (impl_parts__impl_hexAround.l2 k x0 (x6.set (x36 : Int).toNat x36) x36 (([x36] : List Int)) 0 x35 x36)) else (none)) else (none)) else (some x6)
def impl_parts__impl_hexAround.l2 : Nat → List (S59) → List Int → Int → List Int → Int → Int → Int → Option (List Int)
 | 0, _, _, _, _, _, _, _ => none
 | k + 1, x0, x6, x9, x10, x11, x35, x36 => if x11 < (x10.length : Int) then (if 0 ≤ x11 then (if 0 ≤ (rd x10 x11) then (if (rd x10 x11) < (x0.length : Int) then ((impl_hexAround.f ((rd_T59 x0 (rd x10 x11)).f0) ((rd_T59 x0 (rd x10 x11)).f1)).bind fun t1007 => (impl_parts__impl_hexAround.l3 k x0 x6 x9 x10 x11 x35 x36 t1007 (t1007.length : Int) 0)) else (none)) else (none)) else (none)) else (impl_parts__impl_hexAround.l1 k x0 x6 x35 (wrap64 (x36 + 1)))
def impl_parts__impl_hexAround.l3 : Nat → List (S59) → List Int → Int → List Int → Int → Int → Int → List (S59) → Int → Int → Option (List Int)
 | 0, _, _, _, _, _, _, _, _, _, _ => none
 | k + 1, x0, x6, x9, x10, x11, x35, x36, x64, x65, x66 => if x66 < x65 then (if 0 ≤ x66 then (if x66 < (x64.length : Int) then ((impl_partsLook.f x0 ((rd_T59 x64 x66).f0) ((rd_T59 x64 x66).f1)).bind fun bt1012 => (if bt1012.2 = true then (if 0 ≤ bt1012.1 then (if bt1012.1 < (x6.length : Int) then (if (rd x6 bt1012.1) < 0 then (if x10.length < 17592186044416 then (impl_parts__impl_hexAround.l3 k x0 (x6.set (bt1012.1 : Int).toNat x9) x9 (x10 ++ [bt1012.1]) x11 x35 x36 x64 x65 (wrap64 (x66 + 1))) else (none)) else (impl_parts__impl_hexAround.l3 k x0 x6 x9 x10 x11 x35 x36 x64 x65 (wrap64 (x66 + 1)))) else (none)) else (none)) else (impl_parts__impl_hexAround.l3 k x0 x6 x9 x10 x11 x35 x36 x64 x65 (wrap64 (x66 + 1))))) else (none)) else (none)) else (impl_parts__impl_hexAround.l2 k x0 x6 x9 x10 (wrap64 (x11 + 1)) x35 x36)
end
def impl_parts__impl_hexAround.f (k : Nat) (l0 : List (S59)) : Option (List Int) := if l0.all wfC = true then (if 0 ≤ (l0.length : Int) then (if ((l0.length : Int) : Int).toNat ≤ 35184372088832 then (impl_parts__impl_hexAround.l0 k l0 (List.replicate ((l0.length : Int) : Int).toNat 0) l0 (l0.length : Int) 0) else (none)) else (none)) else none
theorem impl_parts__impl_hexAround.calls (k : Nat) (A0 : Option Addr) (c0 : Nat) (l0 : List (S59))  (r : List Int) (w : World) (hr0 : Kd.C k59 w A0 l0.length l0) (hc0 : l0.length ≤ c0) (h : impl_parts__impl_hexAround.f k l0 = some r) :
  Calls Try.prog 83 #[.slice A0 l0.length c0, .func (.func 71) #[] #[]] w fun e w' => ∃ v0_ : Value, e = .returned (v0_) ∧ Kd.R (Kd.int .i64) 2 w' w.heap.size (fun _ => True) v0_ r ∧ Below w.heap.size w w' := by
 have hu59 := Try.underlying59
 have HR0 := aM hr0
 have HC0 := aM hc0
 clear hr0 hc0
 have HB := aM (Below.refl w.heap.size w)
 have Hwf : l0.all wfC = true := by
  by_cases hh : l0.all wfC = true
  ·exact hh
  unfold impl_parts__impl_hexAround.f at h; rw [if_neg hh] at h; cases h
 have H : (if 0 ≤ (l0.length : Int) then (if ((l0.length : Int) : Int).toNat ≤ 35184372088832 then (impl_parts__impl_hexAround.l0 k l0 (List.replicate ((l0.length : Int) : Int).toNat 0) l0 (l0.length : Int) 0) else (none)) else (none)) = some r := by unfold impl_parts__impl_hexAround.f at h; rw [if_pos Hwf] at h; exact h
 clear h
 by_cases c3 : 0 ≤ (l0.length : Int)
 rotate_left
 ·rw [if_neg c3] at H
  exact absurd H (by simp)
 rw [if_pos c3] at H
 have c3b0 := eq_true c3
 have c3b1 : decide (0 ≤ (l0.length : Int)) = true := decide_eq_true c3
 clear c3
 by_cases c4 : ((l0.length : Int) : Int).toNat ≤ 35184372088832
 rotate_left
 ·rw [if_neg c4] at H
  exact absurd H (by simp)
 rw [if_pos c4] at H
 have c4b0 := eq_true c4
 have c4b1 : decide (((l0.length : Int) : Int).toNat ≤ 35184372088832) = true := decide_eq_true c4
 have HLN : Aside0 (l0.length ≤ 35184372088832) := ⟨by have := of_decide_eq_true c4b1; omega⟩
 clear c4
 obtain ⟨y994, hy994⟩ : ∃ y_ : List Int, y_ = (List.replicate ((l0.length : Int) : Int).toNat 0) := ⟨_, rfl⟩
 replace H : (impl_parts__impl_hexAround.l0 k l0 y994 l0 (l0.length : Int) 0) = some r := zy H hy994
 have Ny994 := aM hy994
 clear hy994
 have H' := aM H
 clear H
 go_enter Try.func83, Try.ntmps83
 go_wp2_with (first | ((with_reducible refine gate_dst (N := 16) rfl ?_); refine pm_make rfl rfl ?_; intro bm w40_ hb hlt_ hM_; have HM := aM hM_; have HMB := aM (Nat.le_trans (below_size zb) hlt_); have n1_ := aM (below_step zb hb); clear HB; have HB := n1_; clear n1_ hM_ hb hlt_) | ((with_reducible refine gate_dst (N := 19) rfl ?_); refine Kd.R_make (Kd.int .i64) _ 2 rfl (N := 19) rfl 40 _ _ rfl (l0.length : Int) rfl rfl Try.underlying40 (.int .i64 0) 8 info2 rfl (by decide) (by omega) 0 (ok := fun _ => True) (okp := fun _ => True) rfl (fun _ hk => hk) trivial (of_decide_eq_true za) (Nat.le_trans (Nat.mul_le_mul_right _ (of_decide_eq_true za : (l0.length : Int).toNat ≤ 35184372088832)) (by omega)) (Below.refl _ _) (Nat.le_refl _) ?_; intro v995 w5 ho6 hb hg_ hnew_; clear hg_ hnew_; have m0_ := aM (pm_step (by (with_reducible repeat (first | apply pm_alloc | apply pm_drewN | apply pm_drew | refine pm_farN ?_ (by assumption) _)); exact HM.out) hb); clear HM; have HM := m0_; clear m0_; (first | rw [← Ny994.out] at ho6 | (simp only [Int.reduceToNat] at ho6; rw [← Ny994.out] at ho6)); have n0_ := aM (Kd.R_lower ho6 (below_size zb)); have n1_ := aM (below_step zb hb); clear HB; have HO996 := n0_; have HB := n1_; clear n0_ n1_; clear hb ho6))
 go_loopg [22] k (fun kq v22 w' => ∃ (x6_1 : List Int) (x22_1 : Int), v22 = .int .i64 x22_1 ∧ Aside0 (impl_parts__impl_hexAround.l0 kq l0 x6_1 l0 (l0.length : Int) x22_1 = some r) ∧ Aside0 (kq ≤ k) ∧ Aside0 (Kd.R (Kd.int .i64) 2 w' w.heap.size (fun _ => True) v995 x6_1) ∧ Aside0 (Below w.heap.size w w') ∧ Aside0 (0 ≤ x22_1) ∧ Aside0 (PM w' bm (l0.take x22_1.toNat)))
 case atStart => exact ⟨(y994), (0), zr, H', ⟨Nat.le_refl _⟩, ⟨mR_ HO996.out⟩, ⟨zb⟩, ⟨Int.le_refl _⟩, ⟨(by (with_reducible repeat (first | apply pm_alloc | apply pm_drewN | apply pm_drew | refine pm_farN ?_ (by assumption) _)); exact HM.out)⟩⟩
 case round =>
  clear H'
  try clear p2
  try clear c3
  try clear c3b0
  try clear c3b1
  try clear c4
  try clear c4b0
  try clear c4b1
  obtain ⟨x6_1, x22_1, rfl, HA, HK1, HO_6, HB, HI, HM⟩ := hrel
  cases gk with
  | zero => exact absurd HA.out (by simp [impl_parts__impl_hexAround.l0])
  | succ k1 =>
   have H := HA.out
   clear HA
   simp only [impl_parts__impl_hexAround.l0] at H
   by_cases c7 : x22_1 < (l0.length : Int)
   ·rw [if_pos c7] at H
    have c7b0 : decide (x22_1 < (l0.length : Int)) = true := decide_eq_true c7
    clear c7
    by_cases c8 : 0 ≤ x22_1
    rotate_left
    ·rw [if_neg c8] at H
     exact absurd H (by simp)
    rw [if_pos c8] at H
    have c8b0 : decide (0 ≤ x22_1) = true := decide_eq_true c8
    clear c8
    by_cases c9 : x22_1 < (l0.length : Int)
    rotate_left
    ·rw [if_neg c9] at H
     exact absurd H (by simp)
    rw [if_pos c9] at H
    have c9b0 : decide (x22_1 < (l0.length : Int)) = true := decide_eq_true c9
    clear c9
    by_cases c10 : x22_1 < (x6_1.length : Int)
    rotate_left
    ·rw [if_neg c10] at H
     exact absurd H (by simp)
    rw [if_pos c10] at H
    have c10b0 : decide (x22_1 < (x6_1.length : Int)) = true := decide_eq_true c10
    clear c10
    obtain ⟨y999, hy999⟩ : ∃ y_ : List Int, y_ = (x6_1.set (x22_1 : Int).toNat (-1)) := ⟨_, rfl⟩
    replace H : (impl_parts__impl_hexAround.l0 k1 l0 y999 l0 (l0.length : Int) (wrap64 (x22_1 + 1))) = some r := zy H hy999
    have Ny999 := aM hy999
    clear hy999
    have H' := aM H
    clear H
    have p997 : 0 ≤ (x22_1 : Int) := of_decide_eq_true za
    have q997 : x22_1 < (l0.length : Int) := of_decide_eq_true za
    obtain ⟨ad997, e997, hx997_0, hx997_1⟩ := at_T59 HR0.out x22_1 p997 q997
    cases e997
    replace hx997_0 := zk HB.out hx997_0
    replace hx997_1 := zk HB.out hx997_1
    replace p997 := eq_true p997
    replace q997 := eq_true q997
    go_wp2_with (first | ((with_reducible refine gate_dst (N := 8) rfl ?_); refine zx 8 #[.int .i64 0, .int .i64 0] 59 ?_; intro gb998 hg w12 hbox hb; have hne998 : bm ≠ gb998 := (by rw [hg]; exact Nat.ne_of_lt (pm_lt (by (with_reducible repeat (first | apply pm_alloc | apply pm_drewN | apply pm_drew | refine pm_farN ?_ (by assumption) _)); exact HM.out))); have m0_ := aM (pm_step (by (with_reducible repeat (first | apply pm_alloc | apply pm_drewN | apply pm_drew | refine pm_farN ?_ (by assumption) _)); exact HM.out) hb); clear HM; have HM := m0_; clear m0_; have n0_ := aM (Kd.R_below (mR_ HO_6.out) hb); have n1_ := aM (below_step zb hb); have n2_ := aM (hbox); have n3_ := aM ((ze : w.heap.size ≤ gb998)); have n4_ := aM ((ze : w.heap.size ≤ gb998)); clear HO_6 HB; have HO_6 := n0_; have HB := n1_; have BK998 := n2_; have GW998 := n3_; have GE998 := n4_; clear n0_ n1_ n2_ n3_ n4_ hb hbox hg; have hcz13_0 : w12.cell? ⟨gb998, 0, none⟩ = some (.int .i64 0) := (blk_cell BK998.out 0).trans rfl; have hcz13_1 : w12.cell? ⟨gb998, 1, none⟩ = some (.int .i64 0) := (blk_cell BK998.out 1).trans rfl; have hfz13_0 := blk_frozen BK998.out 0; have hfz13_1 := blk_frozen BK998.out 1) | ((with_reducible refine gate_store (t := 59) (p := 8) rfl ?_); refine store_event (t := 59) (p := 8) (v := ?vo_w14) (w1 := ((w12.setCell ⟨gb998, 0, none⟩ (.int .i64 ((rd_T59 l0 x22_1).f0))).setCell ⟨gb998, 1, none⟩ (.int .i64 ((rd_T59 l0 x22_1).f1)))) ?hg ?ho ?hn ?hr ?_; (case ho => rfl); (case hg => rfl); (case hn => rfl); (case hr => first | (go_simp; done) | (go_simp; rfl)); intro w14 hw; have m0_ : Aside0 (PM w14 bm (l0.take x22_1.toNat)) := ⟨(by rw [hw]; exact (by (with_reducible repeat (first | apply pm_alloc | apply pm_drewN | apply pm_drew | refine pm_farN ?_ (by assumption) _)); exact HM.out))⟩; clear HM; have HM := m0_; clear m0_; have n0_ : Aside0 (Kd.R (Kd.int .i64) 2 w14 w.heap.size (fun _ => True) v995 x6_1) := ⟨(by rw [hw]; exact (by (with_reducible repeat (first | apply Kd.R_alloc | apply Kd.R_drewN | apply Kd.R_drew)); exact Kd.R_mono (Kd.R_far (p := ⟨gb998, 1, none⟩) (Kd.R_far (p := ⟨gb998, 0, none⟩) (Kd.R_types HO_6.out BK998.out (by decide)) (fun _ hk => hk.2) (.int .i64 ((rd_T59 l0 x22_1).f0))) (fun _ hk => hk.2) (.int .i64 ((rd_T59 l0 x22_1).f1))) (fun _ hk => trivial)))⟩; have n1_ : Aside0 (w14.heap[gb998]? = some (.cells #[.int .i64 ((rd_T59 l0 x22_1).f0), .int .i64 ((rd_T59 l0 x22_1).f1)] 59 (0, 0))) := ⟨(by rw [hw]; exact (by (with_reducible repeat (first | refine blk_drewN ?_ _ | refine blk_drew ?_ | refine blk_alloc ?_ _)); refine blk_put (cs := #[.int .i64 ((rd_T59 l0 x22_1).f0), .int .i64 0]) ?_ 1 _ rfl; (with_reducible repeat (first | refine blk_drewN ?_ _ | refine blk_drew ?_ | refine blk_alloc ?_ _)); refine blk_put (cs := #[.int .i64 0, .int .i64 0]) ?_ 0 _ rfl; (with_reducible repeat (first | refine blk_drewN ?_ _ | refine blk_drew ?_ | refine blk_alloc ?_ _)); exact BK998.out))⟩; have n2_ : Aside0 (Below w.heap.size w w14) := ⟨(by rw [hw]; exact (zs GE998.out))⟩; clear hw HO_6 BK998 HB; have HO_6 := n0_; have BK998 := n1_; have HB := n2_; clear n0_ n1_ n2_; have hcz15_0 : w14.cell? ⟨gb998, 0, none⟩ = some (.int .i64 ((rd_T59 l0 x22_1).f0)) := (blk_cell BK998.out 0).trans rfl; have hcz15_1 : w14.cell? ⟨gb998, 1, none⟩ = some (.int .i64 ((rd_T59 l0 x22_1).f1)) := (blk_cell BK998.out 1).trans rfl; have hfz15_0 := blk_frozen BK998.out 0; have hfz15_1 := blk_frozen BK998.out 1) | ((with_reducible refine gate_map (t := 96) (m := .tmp 27) (x := .tmp 28) (v := .tmp 29) rfl ?_); refine pm_putAt rfl _ _ _ rfl rfl x22_1 ?hM HI.out ?h1 HLN.out Hwf rfl rfl ?_; (case hM => exact (by (with_reducible repeat (first | apply pm_alloc | apply pm_drewN | apply pm_drew | refine pm_farN ?_ (by assumption) _)); exact HM.out)); (case h1 => exact of_decide_eq_true za); intro w14 hg hi_ m0h_; have n0_ := aM (R_map (mR_ HO_6.out) (by (with_reducible repeat (first | apply pm_alloc | apply pm_drewN | apply pm_drew | refine pm_farN ?_ (by assumption) _)); exact HM.out) hg); have n1_ := aM (blk_grown (g := gb998) (o := .cells #[.int .i64 ((rd_T59 l0 x22_1).f0), .int .i64 ((rd_T59 l0 x22_1).f1)] 59 (0, 0)) (mB_ BK998.out) hg (by simpa using Ne.symm (hne998))); have n2_ := aM (pw_below_grown zb (some bm) (below_size zb) hg (fun _ hk_ => by injection hk_ with hk_; subst hk_; exact HMB.out)); clear HM HO_6 BK998 HB HI; have HM := aM m0h_; have HI := aM hi_; have HO_6 := n0_; have BK998 := n1_; have HB := n2_; clear n0_ n1_ n2_ hg m0h_ hi_; have p11 : 0 ≤ (x22_1 : Int) := of_decide_eq_true za; have q11 : (x22_1 : Int) < ((x6_1.length : Int) : Int) := of_decide_eq_true za; obtain ⟨go11, co11, eo11, gb11, gl11, cl11, HG11⟩ := Kd.R_form HO_6.out (by omega); (first | cases eo11 | (injection eo11 with ea_ en_ ec_; (first | subst ea_ | (injection ea_ with ea_; subst ea_)); subst ec_; clear en_)); have GB11 := aM gb11; have GG11 := aM HG11; clear gb11 gl11 HG11; obtain ⟨hx11_0, hf11_0⟩ := Kd.R_celln 0 HO_6.out (x22_1 : Int) p11 q11; replace p11 := eq_true p11; replace q11 := eq_true q11; obtain ⟨hy16_, hz16_⟩ := Kd.R_celln 0 HO_6.out (x22_1 : Int) (of_decide_eq_true za) (of_decide_eq_true za); have HP16 := Kd.R_putg HO_6.out (x22_1 : Int) (-1)) | ((with_reducible refine gate_store (t := 2) (p := 32) rfl ?_); refine store_event (t := 2) (p := 32) (v := ?vo_w17) (w1 := (w14.setCell ⟨go11, (x22_1 : Int).toNat, none⟩ (.int .i64 (-1)))) ?hg ?ho ?hn ?hr ?_; (case ho => rfl); (case hg => rfl); (case hn => rfl); (case hr => first | (go_simp; done) | (go_simp; rfl)); intro w17 hw; have hg : w14.grownBy w17 (some go11) := (by rw [hw]; exact HP16.2); have m0_ := aM (pm_kept (row := some go11) HM.out hg (pm_row HM.out HO_6.out)); clear HM; have HM := m0_; clear m0_; have hp_ : Kd.R (Kd.int .i64) 2 w17 w.heap.size (fun _ => True) (.slice (some ⟨go11, 0, none⟩) x6_1.length co11) y999 := (by rw [hw, Ny999.out]; exact HP16.1); clear HP16; have n0_ := aM (hp_); have n1_ := aM (blk_grown (g := gb998) (o := .cells #[.int .i64 ((rd_T59 l0 x22_1).f0), .int .i64 ((rd_T59 l0 x22_1).f1)] 59 (0, 0)) (mB_ BK998.out) hg (Kd.R_ne HO_6.out BK998.out (by decide))); have n2_ := aM ((by rw [hw]; exact below_set (HB.out) GB11.out : Below w.heap.size w w17)); clear HO_6 BK998 HB; have HO_6 := n0_; have BK998 := n1_; have HB := n2_; clear n0_ n1_ n2_; clear hg hw hp_))
    go_roundg k1
    case measure => have := HK1.out; omega
    case rel => exact ⟨(y999), (wrap64 (x22_1 + 1)), zr, H', ⟨by have := HK1.out; omega⟩, ⟨mR_ HO_6.out⟩, ⟨zs GE998.out⟩, ⟨HI.out⟩, ⟨(by (with_reducible repeat (first | apply pm_alloc | apply pm_drewN | apply pm_drew | refine pm_farN ?_ (by assumption) _)); exact HM.out)⟩⟩
   rw [if_neg c7] at H
   have c7b0 : decide (x22_1 < (l0.length : Int)) = false := decide_eq_false c7
   replace HM : Aside0 (PM _ bm l0) := ⟨pm_all HM.out (of_decide_eq_false c7b0)⟩
   clear c7
   have H' := aM H
   clear H
   go_wp2
   go_loopg [36] k1 (fun kq v36 w' => ∃ (x6_2 : List Int) (x36_2 : Int), v36 = .int .i64 x36_2 ∧ Aside0 (impl_parts__impl_hexAround.l1 kq l0 x6_2 (l0.length : Int) x36_2 = some r) ∧ Aside0 (kq ≤ k1) ∧ Aside0 (Kd.R (Kd.int .i64) 2 w' w.heap.size (fun _ => True) v995 x6_2) ∧ Aside0 (Below w.heap.size w w') ∧ Aside0 (PM w' bm l0))
   case atStart => exact ⟨(x6_1), (0), zr, H', ⟨Nat.le_refl _⟩, ⟨mR_ HO_6.out⟩, ⟨zb⟩, ⟨(by (with_reducible repeat (first | apply pm_alloc | apply pm_drewN | apply pm_drew | refine pm_farN ?_ (by assumption) _)); exact HM.out)⟩⟩
   case round =>
    clear H'
    try clear c1
    try clear p1
    try clear q1
    try clear hx1
    try clear p2
    try clear c3
    try clear c3b0
    try clear c3b1
    try clear c4
    try clear c4b0
    try clear c4b1
    try clear p6
    try clear c7
    try clear c7b0
    try clear c8
    try clear c8b0
    try clear c9
    try clear c9b0
    try clear p9
    try clear q9
    try clear hx9
    try clear c10
    try clear c10b0
    try clear p11
    try clear q11
    try clear hx11
    try clear hf11
    try clear hcz13_0
    try clear hcz13_1
    try clear hcz15_0
    try clear hcz15_1
    try clear hfz13_0
    try clear hfz13_1
    try clear hfz15_0
    try clear hfz15_1
    try clear hx11_0
    try clear hx997_0
    try clear hx997_1
    try clear p11
    try clear p2
    try clear p997
    try clear q11
    try clear q997
    obtain ⟨x6_2, x36_2, rfl, HA, HK2, HO_6, HB, HM⟩ := hrel
    cases gk with
    | zero => exact absurd HA.out (by simp [impl_parts__impl_hexAround.l1])
    | succ k2 =>
     have H := HA.out
     clear HA
     simp only [impl_parts__impl_hexAround.l1] at H
     by_cases c18 : x36_2 < (l0.length : Int)
     rotate_left
     ·rw [if_neg c18] at H
      have c18b0 : decide (x36_2 < (l0.length : Int)) = false := decide_eq_false c18
      clear c18
      obtain rfl := Option.some.inj H
      go_wp2
      go_ret
      exact ⟨_, zw, mR_ HO_6.out, zb⟩
     rw [if_pos c18] at H
     have c18b0 : decide (x36_2 < (l0.length : Int)) = true := decide_eq_true c18
     clear c18
     by_cases c19 : 0 ≤ x36_2
     rotate_left
     ·rw [if_neg c19] at H
      exact absurd H (by simp)
     rw [if_pos c19] at H
     have c19b0 : decide (0 ≤ x36_2) = true := decide_eq_true c19
     clear c19
     by_cases c20 : x36_2 < (x6_2.length : Int)
     rotate_left
     ·rw [if_neg c20] at H
      exact absurd H (by simp)
     rw [if_pos c20] at H
     have c20b0 : decide (x36_2 < (x6_2.length : Int)) = true := decide_eq_true c20
     clear c20
     by_cases c21 : (rd x6_2 x36_2) ≥ 0
     ·rw [if_pos c21] at H
      have c21b0 : decide (0 ≤ (rd x6_2 x36_2)) = true := decide_eq_true c21
      clear c21
      have H' := aM H
      clear H
      obtain ⟨Ao22, co22, eo22⟩ := Kd.R_slice HO_6.out
      subst eo22
      have p1000 : 0 ≤ (x36_2 : Int) := of_decide_eq_true za
      have q1000 : x36_2 < (x6_2.length : Int) := of_decide_eq_true za
      obtain ⟨ad1000, e1000, hx1000_0⟩ := Kd.at_int (Kd.R_reads' HO_6.out).2.2 x36_2 p1000 q1000
      cases e1000
      replace p1000 := eq_true p1000
      replace q1000 := eq_true q1000
      go_wp2
      go_roundg k2
      case measure => have := HK1.out; have := HK2.out; omega
      case rel => exact ⟨(x6_2), (wrap64 (x36_2 + 1)), zr, H', ⟨by have := HK1.out; have := HK2.out; omega⟩, ⟨mR_ HO_6.out⟩, ⟨zb⟩, ⟨(by (with_reducible repeat (first | apply pm_alloc | apply pm_drewN | apply pm_drew | refine pm_farN ?_ (by assumption) _)); exact HM.out)⟩⟩
     rw [if_neg c21] at H
     have c21b0 : decide (0 ≤ (rd x6_2 x36_2)) = false := decide_eq_false c21
     clear c21
     obtain ⟨y1001, hy1001⟩ : ∃ y_ : List Int, y_ = (x6_2.set (x36_2 : Int).toNat x36_2) := ⟨_, rfl⟩
     replace H : (impl_parts__impl_hexAround.l2 k2 l0 y1001 x36_2 (([x36_2] : List Int)) 0 (l0.length : Int) x36_2) = some r := zy H hy1001
     have Ny1001 := aM hy1001
     clear hy1001
     obtain ⟨y1002, hy1002⟩ : ∃ y_ : List Int, y_ = (([x36_2] : List Int)) := ⟨_, rfl⟩
     replace H : (impl_parts__impl_hexAround.l2 k2 l0 y1001 x36_2 y1002 0 (l0.length : Int) x36_2) = some r := zy H hy1002
     have Ny1002 := aM hy1002
     clear hy1002
     have H' := aM H
     clear H
     obtain ⟨Ao24, co24, eo24⟩ := Kd.R_slice HO_6.out
     subst eo24
     have p1000 : 0 ≤ (x36_2 : Int) := of_decide_eq_true za
     have q1000 : x36_2 < (x6_2.length : Int) := of_decide_eq_true za
     obtain ⟨ad1000, e1000, hx1000_0⟩ := Kd.at_int (Kd.R_reads' HO_6.out).2.2 x36_2 p1000 q1000
     cases e1000
     replace p1000 := eq_true p1000
     replace q1000 := eq_true q1000
     have p23 : 0 ≤ (x36_2 : Int) := of_decide_eq_true za
     have q23 : (x36_2 : Int) < ((x6_2.length : Int) : Int) := of_decide_eq_true za
     obtain ⟨go23, co23, eo23, gb23, gl23, cl23, HG23⟩ := Kd.R_form HO_6.out (by omega)
     (first | cases eo23 | (injection eo23 with ea_ en_ ec_; (first | subst ea_ | (injection ea_ with ea_; subst ea_)); subst ec_; clear en_))
     have GB23 := aM gb23
     have GG23 := aM HG23
     clear gb23 gl23 HG23
     (first | simp only [add_plain] at hx1000_0 | skip)
     obtain ⟨hx23_0, hf23_0⟩ := Kd.R_celln 0 HO_6.out (x36_2 : Int) p23 q23
     replace p23 := eq_true p23
     replace q23 := eq_true q23
     have HP25 := Kd.R_putg HO_6.out (x36_2 : Int) x36_2
     go_wp2_with (first | ((with_reducible refine gate_store (t := 2) (p := 47) rfl ?_); refine store_event (t := 2) (p := 47) (v := ?vo_w26) (w1 := (wr.setCell ⟨go23, (x36_2 : Int).toNat, none⟩ (.int .i64 x36_2))) ?hg ?ho ?hn ?hr ?_; (case ho => rfl); (case hg => rfl); (case hn => rfl); (case hr => first | (go_simp; done) | (go_simp; rfl)); intro w26 hw; have hg : wr.grownBy w26 (some go23) := (by rw [hw]; exact HP25.2); have m0_ := aM (pm_kept (row := some go23) HM.out hg (pm_row HM.out HO_6.out)); clear HM; have HM := m0_; clear m0_; have hp_ : Kd.R (Kd.int .i64) 2 w26 w.heap.size (fun _ => True) (.slice (some ⟨go23, 0, none⟩) x6_2.length co24) y1001 := (by rw [hw, Ny1001.out]; exact HP25.1); clear HP25; have n0_ := aM (hp_); have n1_ := aM ((by rw [hw]; exact below_set (HB.out) GB23.out : Below w.heap.size w w26)); clear HO_6 HB; have HO_6 := n0_; have HB := n1_; clear n0_ n1_; clear hg hw hp_) | ((with_reducible refine gate_dst (N := 49) rfl ?_); refine Kd.R_lit (Kd.int .i64) _ 3 ?hg (N := 49) ?hd (xs := ([x36_2] : List Int)) (inner := [.int .i64 x36_2]) (ok := fun _ => True) (okp := fun _ => True) ?hr ?hp (fun _ hk => hk) trivial (Below.refl _ _) (Nat.le_refl _) (by simp) ?_; (case hd => rfl); (case hg => rfl); (case hr => first | (go_simp; done) | (go_simp; rfl)); (case hp => exact (Reps.one (show Kd.M (Kd.int .i64) _ _ _ x36_2 [.int .i64 x36_2] from rfl) (Reps.none _ _))); intro v1003 w27 ho28 hb hg_ hnew_; clear hg_ hnew_; have m0_ := aM (pm_step (by (with_reducible repeat (first | apply pm_alloc | apply pm_drewN | apply pm_drew | refine pm_farN ?_ (by assumption) _)); exact HM.out) hb); clear HM; have HM := m0_; clear m0_; (first | rw [← Ny1002.out] at ho28 | (simp only [Int.reduceToNat] at ho28; rw [← Ny1002.out] at ho28)); have n0_ := aM (Kd.R_below (mR_ HO_6.out) hb); have n1_ := aM (Kd.R_lower ho28 (below_size zb)); have n2_ := aM (below_step zb hb); clear HO_6 HB; have HO_6 := n0_; have HO1004 := n1_; have HB := n2_; clear n0_ n1_ n2_; clear hb ho28))
     go_loopg [10, 11] k2 (fun kq v10 v11 w' => ∃ (x6_3 : List Int) (x10_3 : List Int) (x11_3 : Int), v11 = .int .i64 x11_3 ∧ Aside0 (impl_parts__impl_hexAround.l2 kq l0 x6_3 x36_2 x10_3 x11_3 (l0.length : Int) x36_2 = some r) ∧ Aside0 (kq ≤ k2) ∧ Aside0 (Kd.R (Kd.int .i64) 2 w' w.heap.size (fun _ => True) (.slice (some ⟨go23, 0, none⟩) x6_2.length co24) x6_3) ∧ Aside0 (Kd.R (Kd.int .i64) 3 w' w.heap.size (fun _ => True) v10 x10_3) ∧ Aside0 (Below w.heap.size w w') ∧ Aside0 (PM w' bm l0))
     case atStart => exact ⟨(y1001), (y1002), (0), zr, H', ⟨Nat.le_refl _⟩, ⟨mR_ HO_6.out⟩, ⟨mR_ HO1004.out⟩, ⟨zb⟩, ⟨(by (with_reducible repeat (first | apply pm_alloc | apply pm_drewN | apply pm_drew | refine pm_farN ?_ (by assumption) _)); exact HM.out)⟩⟩
     case round =>
      clear H'
      try clear c1
      try clear p1
      try clear q1
      try clear hx1
      try clear c2
      try clear p2
      try clear q2
      try clear hx2
      try clear hf2
      try clear c3
      try clear c3b0
      try clear c3b1
      try clear c4
      try clear c4b0
      try clear c4b1
      try clear p6
      try clear c7
      try clear c7b0
      try clear c8
      try clear c8b0
      try clear c9
      try clear c9b0
      try clear p9
      try clear q9
      try clear hx9
      try clear c10
      try clear c10b0
      try clear p10
      try clear q10
      try clear hx10
      try clear p11
      try clear q11
      try clear hx11
      try clear hf11
      try clear c18
      try clear c18b0
      try clear c19
      try clear c19b0
      try clear c20
      try clear c20b0
      try clear c21
      try clear c21b0
      try clear p23
      try clear q23
      try clear hx23
      try clear hf23
      try clear hcz13_0
      try clear hcz13_1
      try clear hcz15_0
      try clear hcz15_1
      try clear hfz13_0
      try clear hfz13_1
      try clear hfz15_0
      try clear hfz15_1
      try clear hx1000_0
      try clear hx11_0
      try clear hx23_0
      try clear hx997_0
      try clear hx997_1
      try clear p1
      try clear p1000
      try clear p11
      try clear p2
      try clear p23
      try clear p6
      try clear p9
      try clear p997
      try clear q1
      try clear q1000
      try clear q11
      try clear q23
      try clear q9
      try clear q997
      obtain ⟨x6_3, x10_3, x11_3, rfl, HA, HK3, HO_6, HO_10, HB, HM⟩ := hrel
      have hl6_3 := (Kd.R_reads' HO_6.out).1
      rw [hl6_3] at HO_6
      (try simp only [hl6_3])
      (try simp only [hl6_3] at HO_10)
      cases gk with
      | zero => exact absurd HA.out (by simp [impl_parts__impl_hexAround.l2])
      | succ k3 =>
       have H := HA.out
       clear HA
       simp only [impl_parts__impl_hexAround.l2] at H
       by_cases c29 : x11_3 < (x10_3.length : Int)
       rotate_left
       ·rw [if_neg c29] at H
        have c29b0 : decide (x11_3 < (x10_3.length : Int)) = false := decide_eq_false c29
        clear c29
        have H' := aM H
        clear H
        obtain ⟨Ao59, co59, eo59⟩ := Kd.R_slice HO_10.out
        subst eo59
        go_wp2
        (try simp only [← hl6_3])
        go_roundg k3
        case measure => have := HK1.out; have := HK2.out; have := HK3.out; omega
        case rel => exact ⟨(x6_3), (wrap64 (x36_2 + 1)), zr, H', ⟨by have := HK1.out; have := HK2.out; have := HK3.out; omega⟩, ⟨by (try simp only [hl6_3]); (with_reducible repeat (first | apply Kd.R_alloc | apply Kd.R_drewN | apply Kd.R_drew)); exact HO_6.out⟩, ⟨zb⟩, ⟨(by (with_reducible repeat (first | apply pm_alloc | apply pm_drewN | apply pm_drew | refine pm_farN ?_ (by assumption) _)); exact HM.out)⟩⟩
       rw [if_pos c29] at H
       have c29b0 : decide (x11_3 < (x10_3.length : Int)) = true := decide_eq_true c29
       clear c29
       by_cases c30 : 0 ≤ x11_3
       rotate_left
       ·rw [if_neg c30] at H
        exact absurd H (by simp)
       rw [if_pos c30] at H
       have c30b0 : decide (0 ≤ x11_3) = true := decide_eq_true c30
       clear c30
       by_cases c31 : 0 ≤ (rd x10_3 x11_3)
       rotate_left
       ·rw [if_neg c31] at H
        exact absurd H (by simp)
       rw [if_pos c31] at H
       have c31b0 : decide (0 ≤ (rd x10_3 x11_3)) = true := decide_eq_true c31
       clear c31
       by_cases c32 : (rd x10_3 x11_3) < (l0.length : Int)
       rotate_left
       ·rw [if_neg c32] at H
        exact absurd H (by simp)
       rw [if_pos c32] at H
       have c32b0 : decide ((rd x10_3 x11_3) < (l0.length : Int)) = true := decide_eq_true c32
       clear c32
       replace H := Option.bind_eq_some_iff.mp H
       obtain ⟨t1007, A330, H⟩ := H
       replace H : (impl_parts__impl_hexAround.l3 k3 l0 x6_3 x36_2 x10_3 x11_3 (l0.length : Int) x36_2 t1007 (t1007.length : Int) 0) = some r := H
       have A33 := aM A330
       clear A330
       have H' := aM H
       clear H
       obtain ⟨Ao34, co34, eo34⟩ := Kd.R_slice HO_10.out
       subst eo34
       have p1005 : 0 ≤ (x11_3 : Int) := of_decide_eq_true za
       have q1005 : x11_3 < (x10_3.length : Int) := of_decide_eq_true za
       obtain ⟨ad1005, e1005, hx1005_0⟩ := Kd.at_int (Kd.R_reads' HO_10.out).2.2 x11_3 p1005 q1005
       cases e1005
       replace p1005 := eq_true p1005
       replace q1005 := eq_true q1005
       have p1006 : 0 ≤ ((rd x10_3 x11_3) : Int) := of_decide_eq_true za
       have q1006 : (rd x10_3 x11_3) < (l0.length : Int) := of_decide_eq_true za
       obtain ⟨ad1006, e1006, hx1006_0, hx1006_1⟩ := at_T59 HR0.out (rd x10_3 x11_3) p1006 q1006
       cases e1006
       replace hx1006_0 := zk HB.out hx1006_0
       replace hx1006_1 := zk HB.out hx1006_1
       replace p1006 := eq_true p1006
       replace q1006 := eq_true q1006
       go_wp2_with (first | (go_at_call 71; (with_reducible refine (impl_hexAround.calls ((rd_T59 l0 (rd x10_3 x11_3)).f0) ((rd_T59 l0 (rd x10_3 x11_3)).f1) t1007 _ A33.out).mono ?_); rintro e w35 ⟨v1008, rfl, ho0, hb⟩; have m0_ := aM (pm_step (by (with_reducible repeat (first | apply pm_alloc | apply pm_drewN | apply pm_drew | refine pm_farN ?_ (by assumption) _)); exact HM.out) hb); clear HM; have HM := m0_; clear m0_; have n0_ := aM (Kd.R_below (mR_ HO_6.out) hb); have n1_ := aM (Kd.R_below (mR_ HO_10.out) hb); have n2_ := aM (Kd.R_lower ho0 (below_size zb)); have n3_ := aM (below_step zb hb); clear HO_6 HO_10 HB; have HO_6 := n0_; have HO_10 := n1_; have HO1009 := n2_; have HB := n3_; clear n0_ n1_ n2_ n3_; (try clear hb); (try clear hb2); (try clear hk); (try clear hi); (try clear ho0); obtain ⟨Ao36, co36, eo36⟩ := Kd.R_slice HO1009.out; subst eo36))
       go_loopg [10, 66] k3 (fun kq v10 v66 w' => ∃ (x6_4 : List Int) (x10_4 : List Int) (x66_4 : Int), v66 = .int .i64 x66_4 ∧ Aside0 (impl_parts__impl_hexAround.l3 kq l0 x6_4 x36_2 x10_4 x11_3 (l0.length : Int) x36_2 t1007 (t1007.length : Int) x66_4 = some r) ∧ Aside0 (kq ≤ k3) ∧ Aside0 (Kd.R (Kd.int .i64) 2 w' w.heap.size (fun _ => True) (.slice (some ⟨go23, 0, none⟩) x6_3.length co24) x6_4) ∧ Aside0 (Kd.R (Kd.int .i64) 3 w' w.heap.size (fun _ => True) v10 x10_4) ∧ Aside0 (Kd.R k59 59 w' w.heap.size (fun _ => True) (.slice Ao36 t1007.length co36) t1007) ∧ Aside0 (Below w.heap.size w w') ∧ Aside0 (PM w' bm l0))
       case atStart => exact ⟨(x6_3), (x10_3), (0), zr, H', ⟨Nat.le_refl _⟩, ⟨by (try simp only [hl6_3]); (with_reducible repeat (first | apply Kd.R_alloc | apply Kd.R_drewN | apply Kd.R_drew)); exact HO_6.out⟩, ⟨by (try simp only [hl6_3]); (with_reducible repeat (first | apply Kd.R_alloc | apply Kd.R_drewN | apply Kd.R_drew)); exact HO_10.out⟩, ⟨by (try simp only [hl6_3]); (with_reducible repeat (first | apply Kd.R_alloc | apply Kd.R_drewN | apply Kd.R_drew)); exact HO1009.out⟩, ⟨zb⟩, ⟨(by (with_reducible repeat (first | apply pm_alloc | apply pm_drewN | apply pm_drew | refine pm_farN ?_ (by assumption) _)); exact HM.out)⟩⟩
       case round =>
        clear H'
        try clear c1
        try clear p1
        try clear q1
        try clear hx1
        try clear c2
        try clear p2
        try clear q2
        try clear hx2
        try clear hf2
        try clear c3
        try clear c3b0
        try clear c3b1
        try clear c4
        try clear c4b0
        try clear c4b1
        try clear p6
        try clear c7
        try clear c7b0
        try clear c8
        try clear c8b0
        try clear c9
        try clear c9b0
        try clear p9
        try clear q9
        try clear hx9
        try clear c10
        try clear c10b0
        try clear p10
        try clear q10
        try clear hx10
        try clear p11
        try clear q11
        try clear hx11
        try clear hf11
        try clear c18
        try clear c18b0
        try clear c19
        try clear c19b0
        try clear c20
        try clear c20b0
        try clear c21
        try clear c21b0
        try clear p23
        try clear q23
        try clear hx23
        try clear hf23
        try clear c29
        try clear c29b0
        try clear c30
        try clear c30b0
        try clear c31
        try clear c31b0
        try clear c32
        try clear c32b0
        try clear hcz13_0
        try clear hcz13_1
        try clear hcz15_0
        try clear hcz15_1
        try clear hfz13_0
        try clear hfz13_1
        try clear hfz15_0
        try clear hfz15_1
        try clear hx1000_0
        try clear hx1005_0
        try clear hx1006_0
        try clear hx1006_1
        try clear hx11_0
        try clear hx23_0
        try clear hx997_0
        try clear hx997_1
        try clear p1
        try clear p10
        try clear p1000
        try clear p1005
        try clear p1006
        try clear p11
        try clear p2
        try clear p23
        try clear p6
        try clear p9
        try clear p997
        try clear q1
        try clear q10
        try clear q1000
        try clear q1005
        try clear q1006
        try clear q11
        try clear q2
        try clear q23
        try clear q9
        try clear q997
        obtain ⟨x6_4, x10_4, x66_4, rfl, HA, HK4, HO_6, HO_10, HO_64, HB, HM⟩ := hrel
        have hl6_4 := (Kd.R_reads' HO_6.out).1
        rw [hl6_4] at HO_6
        (try simp only [hl6_4])
        (try simp only [hl6_4] at HO_10)
        (try simp only [hl6_4] at HO_64)
        cases gk with
        | zero => exact absurd HA.out (by simp [impl_parts__impl_hexAround.l3])
        | succ k4 =>
         have H := HA.out
         clear HA
         simp only [impl_parts__impl_hexAround.l3] at H
         by_cases c37 : x66_4 < (t1007.length : Int)
         rotate_left
         ·rw [if_neg c37] at H
          have c37b0 : decide (x66_4 < (t1007.length : Int)) = false := decide_eq_false c37
          clear c37
          have H' := aM H
          clear H
          go_wp2
          (try simp only [← hl6_3, ← hl6_4])
          go_roundg k4
          case measure => have := HK1.out; have := HK2.out; have := HK3.out; have := HK4.out; omega
          case rel => exact ⟨(x6_4), (x10_4), (wrap64 (x11_3 + 1)), zr, H', ⟨by have := HK1.out; have := HK2.out; have := HK3.out; have := HK4.out; omega⟩, ⟨by (try simp only [hl6_3]); (try simp only [hl6_4]); (with_reducible repeat (first | apply Kd.R_alloc | apply Kd.R_drewN | apply Kd.R_drew)); exact HO_6.out⟩, ⟨by (try simp only [hl6_3]); (try simp only [hl6_4]); (with_reducible repeat (first | apply Kd.R_alloc | apply Kd.R_drewN | apply Kd.R_drew)); exact HO_10.out⟩, ⟨zb⟩, ⟨(by (with_reducible repeat (first | apply pm_alloc | apply pm_drewN | apply pm_drew | refine pm_farN ?_ (by assumption) _)); exact HM.out)⟩⟩
         rw [if_pos c37] at H
         have c37b0 : decide (x66_4 < (t1007.length : Int)) = true := decide_eq_true c37
         clear c37
         by_cases c38 : 0 ≤ x66_4
         rotate_left
         ·rw [if_neg c38] at H
          exact absurd H (by simp)
         rw [if_pos c38] at H
         have c38b0 : decide (0 ≤ x66_4) = true := decide_eq_true c38
         clear c38
         by_cases c39 : x66_4 < (t1007.length : Int)
         rotate_left
         ·rw [if_neg c39] at H
          exact absurd H (by simp)
         rw [if_pos c39] at H
         have c39b0 : decide (x66_4 < (t1007.length : Int)) = true := decide_eq_true c39
         clear c39
         replace H := Option.bind_eq_some_iff.mp H
         obtain ⟨⟨t1012, t1013⟩, A400, H⟩ := H
         replace H : (if t1013 = true then (if 0 ≤ t1012 then (if t1012 < (x6_4.length : Int) then (if (rd x6_4 t1012) < 0 then (if x10_4.length < 17592186044416 then (impl_parts__impl_hexAround.l3 k4 l0 (x6_4.set (t1012 : Int).toNat x36_2) x36_2 (x10_4 ++ [t1012]) x11_3 (l0.length : Int) x36_2 t1007 (t1007.length : Int) (wrap64 (x66_4 + 1))) else (none)) else (impl_parts__impl_hexAround.l3 k4 l0 x6_4 x36_2 x10_4 x11_3 (l0.length : Int) x36_2 t1007 (t1007.length : Int) (wrap64 (x66_4 + 1)))) else (none)) else (none)) else (impl_parts__impl_hexAround.l3 k4 l0 x6_4 x36_2 x10_4 x11_3 (l0.length : Int) x36_2 t1007 (t1007.length : Int) (wrap64 (x66_4 + 1)))) = some r := H
         have A40 := aM A400
         clear A400
         by_cases c41 : t1013 = true
         rotate_left
         ·replace c41 := Bool.eq_false_iff.mpr c41
          subst c41
          have H1 : (impl_parts__impl_hexAround.l3 k4 l0 x6_4 x36_2 x10_4 x11_3 (l0.length : Int) x36_2 t1007 (t1007.length : Int) (wrap64 (x66_4 + 1))) = some r := by rw [if_neg (show ¬ (false = true) by decide)] at H; exact H
          clear H
          have H := H1
          clear H1
          have H' := aM H
          clear H
          have p1010 : 0 ≤ (x66_4 : Int) := of_decide_eq_true za
          have q1010 : x66_4 < (t1007.length : Int) := of_decide_eq_true za
          obtain ⟨ad1010, e1010, hx1010_0, hx1010_1⟩ := at_T59 (Kd.R_reads' HO_64.out).2.2 x66_4 p1010 q1010
          cases e1010
          replace p1010 := eq_true p1010
          replace q1010 := eq_true q1010
          go_wp2_with (first | ((with_reducible refine gate_dst (N := 13) rfl ?_); refine zx 13 #[.int .i64 0, .int .i64 0] 59 ?_; intro gb1011 hg w56 hbox hb; have hne1011 : bm ≠ gb1011 := (by rw [hg]; exact Nat.ne_of_lt (pm_lt (by (with_reducible repeat (first | apply pm_alloc | apply pm_drewN | apply pm_drew | refine pm_farN ?_ (by assumption) _)); exact HM.out))); have m0_ := aM (pm_step (by (with_reducible repeat (first | apply pm_alloc | apply pm_drewN | apply pm_drew | refine pm_farN ?_ (by assumption) _)); exact HM.out) hb); clear HM; have HM := m0_; clear m0_; have n0_ := aM (Kd.R_below (mR_ HO_6.out) hb); have n1_ := aM (Kd.R_below (mR_ HO_10.out) hb); have n2_ := aM (Kd.R_below (Kd.R_elderB (mR_ HO_64.out) gb1011 (Nat.le_of_eq hg.symm)) hb); have n3_ := aM (below_step zb hb); have n4_ := aM (hbox); have n5_ := aM ((ze : w.heap.size ≤ gb1011)); have n6_ := aM ((ze : w.heap.size ≤ gb1011)); clear HO_6 HO_10 HO_64 HB; have HO_6 := n0_; have HO_10 := n1_; have HO_64 := n2_; have HB := n3_; have BK1011 := n4_; have GW1011 := n5_; have GE1011 := n6_; clear n0_ n1_ n2_ n3_ n4_ n5_ n6_ hb hbox hg; have hcz57_0 : w56.cell? ⟨gb1011, 0, none⟩ = some (.int .i64 0) := (blk_cell BK1011.out 0).trans rfl; have hcz57_1 : w56.cell? ⟨gb1011, 1, none⟩ = some (.int .i64 0) := (blk_cell BK1011.out 1).trans rfl; have hfz57_0 := blk_frozen BK1011.out 0; have hfz57_1 := blk_frozen BK1011.out 1) | ((with_reducible refine gate_dst (N := 73) rfl ?_); refine pm_look rfl _ _ rfl rfl ?hM _ _ rfl A40.out ?_; (case hM => exact (by (with_reducible repeat (first | apply pm_alloc | apply pm_drewN | apply pm_drew | refine pm_farN ?_ (by assumption) _)); exact HM.out)); intro w58 hb m0h_; clear HM; have HM := aM m0h_; clear m0h_; have n0_ := aM (Kd.R_below (by (with_reducible repeat (first | apply Kd.R_alloc | apply Kd.R_drewN | apply Kd.R_drew)); exact (Kd.R_mono (Kd.R_far (p := ⟨gb1011, 1, none⟩) (Kd.R_far (p := ⟨gb1011, 0, none⟩) (Kd.R_types HO_6.out BK1011.out (by decide)) (fun _ hk => hk.2) (.int .i64 ((rd_T59 t1007 x66_4).f0))) (fun _ hk => hk.2) (.int .i64 ((rd_T59 t1007 x66_4).f1))) (fun _ h_ => h_.1))) hb); have n1_ := aM (Kd.R_below (by (with_reducible repeat (first | apply Kd.R_alloc | apply Kd.R_drewN | apply Kd.R_drew)); exact (Kd.R_mono (Kd.R_far (p := ⟨gb1011, 1, none⟩) (Kd.R_far (p := ⟨gb1011, 0, none⟩) (Kd.R_types HO_10.out BK1011.out (by decide)) (fun _ hk => hk.2) (.int .i64 ((rd_T59 t1007 x66_4).f0))) (fun _ hk => hk.2) (.int .i64 ((rd_T59 t1007 x66_4).f1))) (fun _ h_ => h_.1))) hb); have n2_ := aM (Kd.R_below (by (with_reducible repeat (first | apply Kd.R_alloc | apply Kd.R_drewN | apply Kd.R_drew)); exact (Kd.R_mono (Kd.R_far (p := ⟨gb1011, 1, none⟩) (Kd.R_far (p := ⟨gb1011, 0, none⟩) (Kd.R_mono HO_64.out (fun k_ hk => (⟨hk, hk.2⟩ : _ ∧ k_ ≠ gb1011))) (fun _ hk => hk.2) (.int .i64 ((rd_T59 t1007 x66_4).f0))) (fun _ hk => hk.2) (.int .i64 ((rd_T59 t1007 x66_4).f1))) (fun _ h_ => h_.1))) hb); have n3_ := aM (blk_below (g := gb1011) (o := .cells #[.int .i64 ((rd_T59 t1007 x66_4).f0), .int .i64 ((rd_T59 t1007 x66_4).f1)] 59 (0, 0)) (by (with_reducible repeat (first | refine blk_drewN ?_ _ | refine blk_drew ?_ | refine blk_alloc ?_ _)); refine blk_put (cs := #[.int .i64 ((rd_T59 t1007 x66_4).f0), .int .i64 0]) ?_ 1 _ rfl; (with_reducible repeat (first | refine blk_drewN ?_ _ | refine blk_drew ?_ | refine blk_alloc ?_ _)); refine blk_put (cs := #[.int .i64 0, .int .i64 0]) ?_ 0 _ rfl; (with_reducible repeat (first | refine blk_drewN ?_ _ | refine blk_drew ?_ | refine blk_alloc ?_ _)); exact BK1011.out) hb); have n4_ := aM (below_step (zs GE1011.out) hb); clear HO_6 HO_10 HO_64 BK1011 HB; have HO_6 := n0_; have HO_10 := n1_; have HO_64 := n2_; have BK1011 := n3_; have HB := n4_; clear n0_ n1_ n2_ n3_ n4_; (try clear hb); (try clear hb2); (try clear hk); (try clear hi)))
          (try simp only [← hl6_4])
          go_roundg k4
          case measure => have := HK1.out; have := HK2.out; have := HK3.out; have := HK4.out; omega
          case rel => exact ⟨(x6_4), (x10_4), (wrap64 (x66_4 + 1)), zr, H', ⟨by have := HK1.out; have := HK2.out; have := HK3.out; have := HK4.out; omega⟩, ⟨by (try simp only [hl6_3]); (try simp only [hl6_4]); (with_reducible repeat (first | apply Kd.R_alloc | apply Kd.R_drewN | apply Kd.R_drew)); exact HO_6.out⟩, ⟨by (try simp only [hl6_3]); (try simp only [hl6_4]); (with_reducible repeat (first | apply Kd.R_alloc | apply Kd.R_drewN | apply Kd.R_drew)); exact HO_10.out⟩, ⟨by (try simp only [hl6_3]); (try simp only [hl6_4]); (with_reducible repeat (first | apply Kd.R_alloc | apply Kd.R_drewN | apply Kd.R_drew)); exact Kd.R_mono HO_64.out (fun _ hk => trivial)⟩, ⟨zs GE1011.out⟩, ⟨(by (with_reducible repeat (first | apply pm_alloc | apply pm_drewN | apply pm_drew | refine pm_farN ?_ (by assumption) _)); exact HM.out)⟩⟩
         subst c41
         have H1 : (if 0 ≤ t1012 then (if t1012 < (x6_4.length : Int) then (if (rd x6_4 t1012) < 0 then (if x10_4.length < 17592186044416 then (impl_parts__impl_hexAround.l3 k4 l0 (x6_4.set (t1012 : Int).toNat x36_2) x36_2 (x10_4 ++ [t1012]) x11_3 (l0.length : Int) x36_2 t1007 (t1007.length : Int) (wrap64 (x66_4 + 1))) else (none)) else (impl_parts__impl_hexAround.l3 k4 l0 x6_4 x36_2 x10_4 x11_3 (l0.length : Int) x36_2 t1007 (t1007.length : Int) (wrap64 (x66_4 + 1)))) else (none)) else (none)) = some r := by rw [if_pos rfl] at H; exact H
         clear H
         have H := H1
         clear H1
         by_cases c42 : 0 ≤ t1012
         rotate_left
         ·rw [if_neg c42] at H
          exact absurd H (by simp)
         rw [if_pos c42] at H
         have c42b0 : decide (0 ≤ t1012) = true := decide_eq_true c42
         clear c42
         by_cases c43 : t1012 < (x6_4.length : Int)
         rotate_left
         ·rw [if_neg c43] at H
          exact absurd H (by simp)
         rw [if_pos c43] at H
         have c43b0 : decide (t1012 < (x6_4.length : Int)) = true := decide_eq_true c43
         clear c43
         by_cases c44 : (rd x6_4 t1012) < 0
         rotate_left
         ·rw [if_neg c44] at H
          have c44b0 : decide ((rd x6_4 t1012) < 0) = false := decide_eq_false c44
          clear c44
          have H' := aM H
          clear H
          have p1010 : 0 ≤ (x66_4 : Int) := of_decide_eq_true za
          have q1010 : x66_4 < (t1007.length : Int) := of_decide_eq_true za
          obtain ⟨ad1010, e1010, hx1010_0, hx1010_1⟩ := at_T59 (Kd.R_reads' HO_64.out).2.2 x66_4 p1010 q1010
          cases e1010
          replace p1010 := eq_true p1010
          replace q1010 := eq_true q1010
          go_wp2_with (first | ((with_reducible refine gate_dst (N := 13) rfl ?_); refine zx 13 #[.int .i64 0, .int .i64 0] 59 ?_; intro gb1011 hg w53 hbox hb; have hne1011 : bm ≠ gb1011 := (by rw [hg]; exact Nat.ne_of_lt (pm_lt (by (with_reducible repeat (first | apply pm_alloc | apply pm_drewN | apply pm_drew | refine pm_farN ?_ (by assumption) _)); exact HM.out))); have m0_ := aM (pm_step (by (with_reducible repeat (first | apply pm_alloc | apply pm_drewN | apply pm_drew | refine pm_farN ?_ (by assumption) _)); exact HM.out) hb); clear HM; have HM := m0_; clear m0_; have n0_ := aM (Kd.R_below (mR_ HO_6.out) hb); have n1_ := aM (Kd.R_below (mR_ HO_10.out) hb); have n2_ := aM (Kd.R_below (Kd.R_elderB (mR_ HO_64.out) gb1011 (Nat.le_of_eq hg.symm)) hb); have n3_ := aM (below_step zb hb); have n4_ := aM (hbox); have n5_ := aM ((ze : w.heap.size ≤ gb1011)); have n6_ := aM ((ze : w.heap.size ≤ gb1011)); clear HO_6 HO_10 HO_64 HB; have HO_6 := n0_; have HO_10 := n1_; have HO_64 := n2_; have HB := n3_; have BK1011 := n4_; have GW1011 := n5_; have GE1011 := n6_; clear n0_ n1_ n2_ n3_ n4_ n5_ n6_ hb hbox hg; have hcz54_0 : w53.cell? ⟨gb1011, 0, none⟩ = some (.int .i64 0) := (blk_cell BK1011.out 0).trans rfl; have hcz54_1 : w53.cell? ⟨gb1011, 1, none⟩ = some (.int .i64 0) := (blk_cell BK1011.out 1).trans rfl; have hfz54_0 := blk_frozen BK1011.out 0; have hfz54_1 := blk_frozen BK1011.out 1) | ((with_reducible refine gate_dst (N := 73) rfl ?_); refine pm_look rfl _ _ rfl rfl ?hM _ _ rfl A40.out ?_; (case hM => exact (by (with_reducible repeat (first | apply pm_alloc | apply pm_drewN | apply pm_drew | refine pm_farN ?_ (by assumption) _)); exact HM.out)); intro w55 hb m0h_; clear HM; have HM := aM m0h_; clear m0h_; have n0_ := aM (Kd.R_below (by (with_reducible repeat (first | apply Kd.R_alloc | apply Kd.R_drewN | apply Kd.R_drew)); exact (Kd.R_mono (Kd.R_far (p := ⟨gb1011, 1, none⟩) (Kd.R_far (p := ⟨gb1011, 0, none⟩) (Kd.R_types HO_6.out BK1011.out (by decide)) (fun _ hk => hk.2) (.int .i64 ((rd_T59 t1007 x66_4).f0))) (fun _ hk => hk.2) (.int .i64 ((rd_T59 t1007 x66_4).f1))) (fun _ h_ => h_.1))) hb); have n1_ := aM (Kd.R_below (by (with_reducible repeat (first | apply Kd.R_alloc | apply Kd.R_drewN | apply Kd.R_drew)); exact (Kd.R_mono (Kd.R_far (p := ⟨gb1011, 1, none⟩) (Kd.R_far (p := ⟨gb1011, 0, none⟩) (Kd.R_types HO_10.out BK1011.out (by decide)) (fun _ hk => hk.2) (.int .i64 ((rd_T59 t1007 x66_4).f0))) (fun _ hk => hk.2) (.int .i64 ((rd_T59 t1007 x66_4).f1))) (fun _ h_ => h_.1))) hb); have n2_ := aM (Kd.R_below (by (with_reducible repeat (first | apply Kd.R_alloc | apply Kd.R_drewN | apply Kd.R_drew)); exact (Kd.R_mono (Kd.R_far (p := ⟨gb1011, 1, none⟩) (Kd.R_far (p := ⟨gb1011, 0, none⟩) (Kd.R_mono HO_64.out (fun k_ hk => (⟨hk, hk.2⟩ : _ ∧ k_ ≠ gb1011))) (fun _ hk => hk.2) (.int .i64 ((rd_T59 t1007 x66_4).f0))) (fun _ hk => hk.2) (.int .i64 ((rd_T59 t1007 x66_4).f1))) (fun _ h_ => h_.1))) hb); have n3_ := aM (blk_below (g := gb1011) (o := .cells #[.int .i64 ((rd_T59 t1007 x66_4).f0), .int .i64 ((rd_T59 t1007 x66_4).f1)] 59 (0, 0)) (by (with_reducible repeat (first | refine blk_drewN ?_ _ | refine blk_drew ?_ | refine blk_alloc ?_ _)); refine blk_put (cs := #[.int .i64 ((rd_T59 t1007 x66_4).f0), .int .i64 0]) ?_ 1 _ rfl; (with_reducible repeat (first | refine blk_drewN ?_ _ | refine blk_drew ?_ | refine blk_alloc ?_ _)); refine blk_put (cs := #[.int .i64 0, .int .i64 0]) ?_ 0 _ rfl; (with_reducible repeat (first | refine blk_drewN ?_ _ | refine blk_drew ?_ | refine blk_alloc ?_ _)); exact BK1011.out) hb); have n4_ := aM (below_step (zs GE1011.out) hb); clear HO_6 HO_10 HO_64 BK1011 HB; have HO_6 := n0_; have HO_10 := n1_; have HO_64 := n2_; have BK1011 := n3_; have HB := n4_; clear n0_ n1_ n2_ n3_ n4_; (try clear hb); (try clear hb2); (try clear hk); (try clear hi); have p1014 : 0 ≤ (t1012 : Int) := of_decide_eq_true za; have q1014 : t1012 < (x6_4.length : Int) := of_decide_eq_true za; obtain ⟨ad1014, e1014, hx1014_0⟩ := Kd.at_int (Kd.R_reads' HO_6.out).2.2 t1012 p1014 q1014; obtain rfl : (⟨go23, 0, none⟩ : Addr) = ad1014 := (by injection e1014); (first | simp only [add_plain] at hx1014_0 | simp only [add_at] at hx1014_0 | simp only [Addr.add, Nat.zero_add] at hx1014_0 | skip); replace p1014 := eq_true p1014; replace q1014 := eq_true q1014))
          (try simp only [← hl6_4])
          go_roundg k4
          case measure => have := HK1.out; have := HK2.out; have := HK3.out; have := HK4.out; omega
          case rel => exact ⟨(x6_4), (x10_4), (wrap64 (x66_4 + 1)), zr, H', ⟨by have := HK1.out; have := HK2.out; have := HK3.out; have := HK4.out; omega⟩, ⟨by (try simp only [hl6_3]); (try simp only [hl6_4]); (with_reducible repeat (first | apply Kd.R_alloc | apply Kd.R_drewN | apply Kd.R_drew)); exact HO_6.out⟩, ⟨by (try simp only [hl6_3]); (try simp only [hl6_4]); (with_reducible repeat (first | apply Kd.R_alloc | apply Kd.R_drewN | apply Kd.R_drew)); exact HO_10.out⟩, ⟨by (try simp only [hl6_3]); (try simp only [hl6_4]); (with_reducible repeat (first | apply Kd.R_alloc | apply Kd.R_drewN | apply Kd.R_drew)); exact Kd.R_mono HO_64.out (fun _ hk => trivial)⟩, ⟨zs GE1011.out⟩, ⟨(by (with_reducible repeat (first | apply pm_alloc | apply pm_drewN | apply pm_drew | refine pm_farN ?_ (by assumption) _)); exact HM.out)⟩⟩
         rw [if_pos c44] at H
         have c44b0 : decide ((rd x6_4 t1012) < 0) = true := decide_eq_true c44
         clear c44
         obtain ⟨y1015, hy1015⟩ : ∃ y_ : List Int, y_ = (x6_4.set (t1012 : Int).toNat x36_2) := ⟨_, rfl⟩
         replace H : (if x10_4.length < 17592186044416 then (impl_parts__impl_hexAround.l3 k4 l0 y1015 x36_2 (x10_4 ++ [t1012]) x11_3 (l0.length : Int) x36_2 t1007 (t1007.length : Int) (wrap64 (x66_4 + 1))) else (none)) = some r := zy H hy1015
         have Ny1015 := aM hy1015
         clear hy1015
         by_cases c46 : x10_4.length < 17592186044416
         rotate_left
         ·rw [if_neg c46] at H
          exact absurd H (by simp)
         rw [if_pos c46] at H
         have LMc46 := aM c46
         clear c46
         obtain ⟨y1016, hy1016⟩ : ∃ y_ : List Int, y_ = (x10_4 ++ [t1012]) := ⟨_, rfl⟩
         replace H : (impl_parts__impl_hexAround.l3 k4 l0 y1015 x36_2 y1016 x11_3 (l0.length : Int) x36_2 t1007 (t1007.length : Int) (wrap64 (x66_4 + 1))) = some r := zy H hy1016
         have Ny1016 := aM hy1016
         clear hy1016
         have H' := aM H
         clear H
         have p1010 : 0 ≤ (x66_4 : Int) := of_decide_eq_true za
         have q1010 : x66_4 < (t1007.length : Int) := of_decide_eq_true za
         obtain ⟨ad1010, e1010, hx1010_0, hx1010_1⟩ := at_T59 (Kd.R_reads' HO_64.out).2.2 x66_4 p1010 q1010
         cases e1010
         replace p1010 := eq_true p1010
         replace q1010 := eq_true q1010
         go_wp2_with (first | ((with_reducible refine gate_dst (N := 13) rfl ?_); refine zx 13 #[.int .i64 0, .int .i64 0] 59 ?_; intro gb1011 hg w47 hbox hb; have hne1011 : bm ≠ gb1011 := (by rw [hg]; exact Nat.ne_of_lt (pm_lt (by (with_reducible repeat (first | apply pm_alloc | apply pm_drewN | apply pm_drew | refine pm_farN ?_ (by assumption) _)); exact HM.out))); have m0_ := aM (pm_step (by (with_reducible repeat (first | apply pm_alloc | apply pm_drewN | apply pm_drew | refine pm_farN ?_ (by assumption) _)); exact HM.out) hb); clear HM; have HM := m0_; clear m0_; have n0_ := aM (Kd.R_below (mR_ HO_6.out) hb); have n1_ := aM (Kd.R_below (mR_ HO_10.out) hb); have n2_ := aM (Kd.R_below (Kd.R_elderB (mR_ HO_64.out) gb1011 (Nat.le_of_eq hg.symm)) hb); have n3_ := aM (below_step zb hb); have n4_ := aM (hbox); have n5_ := aM ((ze : w.heap.size ≤ gb1011)); have n6_ := aM ((ze : w.heap.size ≤ gb1011)); clear HO_6 HO_10 HO_64 HB; have HO_6 := n0_; have HO_10 := n1_; have HO_64 := n2_; have HB := n3_; have BK1011 := n4_; have GW1011 := n5_; have GE1011 := n6_; clear n0_ n1_ n2_ n3_ n4_ n5_ n6_ hb hbox hg; have hcz48_0 : w47.cell? ⟨gb1011, 0, none⟩ = some (.int .i64 0) := (blk_cell BK1011.out 0).trans rfl; have hcz48_1 : w47.cell? ⟨gb1011, 1, none⟩ = some (.int .i64 0) := (blk_cell BK1011.out 1).trans rfl; have hfz48_0 := blk_frozen BK1011.out 0; have hfz48_1 := blk_frozen BK1011.out 1) | ((with_reducible refine gate_dst (N := 73) rfl ?_); refine pm_look rfl _ _ rfl rfl ?hM _ _ rfl A40.out ?_; (case hM => exact (by (with_reducible repeat (first | apply pm_alloc | apply pm_drewN | apply pm_drew | refine pm_farN ?_ (by assumption) _)); exact HM.out)); intro w49 hb m0h_; clear HM; have HM := aM m0h_; clear m0h_; have n0_ := aM (Kd.R_below (by (with_reducible repeat (first | apply Kd.R_alloc | apply Kd.R_drewN | apply Kd.R_drew)); exact (Kd.R_mono (Kd.R_far (p := ⟨gb1011, 1, none⟩) (Kd.R_far (p := ⟨gb1011, 0, none⟩) (Kd.R_types HO_6.out BK1011.out (by decide)) (fun _ hk => hk.2) (.int .i64 ((rd_T59 t1007 x66_4).f0))) (fun _ hk => hk.2) (.int .i64 ((rd_T59 t1007 x66_4).f1))) (fun _ h_ => h_.1))) hb); have n1_ := aM (Kd.R_below (by (with_reducible repeat (first | apply Kd.R_alloc | apply Kd.R_drewN | apply Kd.R_drew)); exact (Kd.R_mono (Kd.R_far (p := ⟨gb1011, 1, none⟩) (Kd.R_far (p := ⟨gb1011, 0, none⟩) (Kd.R_types HO_10.out BK1011.out (by decide)) (fun _ hk => hk.2) (.int .i64 ((rd_T59 t1007 x66_4).f0))) (fun _ hk => hk.2) (.int .i64 ((rd_T59 t1007 x66_4).f1))) (fun _ h_ => h_.1))) hb); have n2_ := aM (Kd.R_below (by (with_reducible repeat (first | apply Kd.R_alloc | apply Kd.R_drewN | apply Kd.R_drew)); exact (Kd.R_mono (Kd.R_far (p := ⟨gb1011, 1, none⟩) (Kd.R_far (p := ⟨gb1011, 0, none⟩) (Kd.R_mono HO_64.out (fun k_ hk => (⟨hk, hk.2⟩ : _ ∧ k_ ≠ gb1011))) (fun _ hk => hk.2) (.int .i64 ((rd_T59 t1007 x66_4).f0))) (fun _ hk => hk.2) (.int .i64 ((rd_T59 t1007 x66_4).f1))) (fun _ h_ => h_.1))) hb); have n3_ := aM (blk_below (g := gb1011) (o := .cells #[.int .i64 ((rd_T59 t1007 x66_4).f0), .int .i64 ((rd_T59 t1007 x66_4).f1)] 59 (0, 0)) (by (with_reducible repeat (first | refine blk_drewN ?_ _ | refine blk_drew ?_ | refine blk_alloc ?_ _)); refine blk_put (cs := #[.int .i64 ((rd_T59 t1007 x66_4).f0), .int .i64 0]) ?_ 1 _ rfl; (with_reducible repeat (first | refine blk_drewN ?_ _ | refine blk_drew ?_ | refine blk_alloc ?_ _)); refine blk_put (cs := #[.int .i64 0, .int .i64 0]) ?_ 0 _ rfl; (with_reducible repeat (first | refine blk_drewN ?_ _ | refine blk_drew ?_ | refine blk_alloc ?_ _)); exact BK1011.out) hb); have n4_ := aM (below_step (zs GE1011.out) hb); clear HO_6 HO_10 HO_64 BK1011 HB; have HO_6 := n0_; have HO_10 := n1_; have HO_64 := n2_; have BK1011 := n3_; have HB := n4_; clear n0_ n1_ n2_ n3_ n4_; (try clear hb); (try clear hb2); (try clear hk); (try clear hi); have p1014 : 0 ≤ (t1012 : Int) := of_decide_eq_true za; have q1014 : t1012 < (x6_4.length : Int) := of_decide_eq_true za; obtain ⟨ad1014, e1014, hx1014_0⟩ := Kd.at_int (Kd.R_reads' HO_6.out).2.2 t1012 p1014 q1014; obtain rfl : (⟨go23, 0, none⟩ : Addr) = ad1014 := (by injection e1014); (first | simp only [add_plain] at hx1014_0 | simp only [add_at] at hx1014_0 | simp only [Addr.add, Nat.zero_add] at hx1014_0 | skip); replace p1014 := eq_true p1014; replace q1014 := eq_true q1014; have p45 : 0 ≤ (t1012 : Int) := of_decide_eq_true za; have q45 : (t1012 : Int) < ((x6_4.length : Int) : Int) := of_decide_eq_true za; obtain ⟨hx45_0, hf45_0⟩ := Kd.R_celln 0 HO_6.out (t1012 : Int) p45 q45; replace p45 := eq_true p45; replace q45 := eq_true q45; obtain ⟨hy50_, hz50_⟩ := Kd.R_celln 0 HO_6.out (t1012 : Int) (of_decide_eq_true za) (of_decide_eq_true za); have HP50 := Kd.R_putg HO_6.out (t1012 : Int) x36_2) | ((with_reducible refine gate_store (t := 2) (p := 87) rfl ?_); refine store_event (t := 2) (p := 87) (v := ?vo_w51) (w1 := (w49.setCell ⟨go23, (t1012 : Int).toNat, none⟩ (.int .i64 x36_2))) ?hg ?ho ?hn ?hr ?_; (case ho => rfl); (case hg => rfl); (case hn => rfl); (case hr => first | (go_simp; done) | (go_simp; rfl)); intro w51 hw; have hg : w49.grownBy w51 (some go23) := (by rw [hw]; exact HP50.2); have m0_ := aM (pm_kept (row := some go23) HM.out hg (pm_row HM.out HO_6.out)); clear HM; have HM := m0_; clear m0_; have hp_ : Kd.R (Kd.int .i64) 2 w51 w.heap.size (fun _ => True) (.slice (some ⟨go23, 0, none⟩) x6_4.length co24) y1015 := (by rw [hw, Ny1015.out]; exact HP50.1); clear HP50; have n0_ := aM (hp_); have n1_ := aM (Kd.R_over' (v := (.slice (some ⟨go23, 0, none⟩) x6_4.length co24)) (mR_ HO_10.out) (Kd.R_typed HO_6.out) (by decide) hg); have n2_ := aM (Kd.R_over' (v := (.slice (some ⟨go23, 0, none⟩) x6_4.length co24)) (mR_ HO_64.out) (Kd.R_typed HO_6.out) (by decide) hg); have n3_ := aM (blk_grown (g := gb1011) (o := .cells #[.int .i64 ((rd_T59 t1007 x66_4).f0), .int .i64 ((rd_T59 t1007 x66_4).f1)] 59 (0, 0)) (mB_ BK1011.out) hg (Kd.R_ne HO_6.out BK1011.out (by decide))); have n4_ := aM ((by rw [hw]; exact below_set (HB.out) GB23.out : Below w.heap.size w w51)); clear HO_6 HO_10 HO_64 BK1011 HB; have HO_6 := n0_; have HO_10 := n1_; have HO_64 := n2_; have BK1011 := n3_; have HB := n4_; clear n0_ n1_ n2_ n3_ n4_; clear hg hw hp_) | ((with_reducible refine gate_builtin (b := .append) (xs := #[.tmp 88, .tmp 90]) rfl ?_); at_builtin; refine Kd.R_append (Kd.int .i64) (w0 := w) w.heap.size rfl (.tmp 88) (.tmp 90) 97 3 (.int .i64 0) 8 rfl Try.underlying97 info3 rfl (by decide) (by omega) u10 x10_4 t1012 [.int .i64 t1012] (fun _ => True) (fun _ => False) rfl rfl ?aP (fun _ hk => hk.elim) ?aF ?aO ?aB ?aS ?aL ?_; (case aP => exact rfl); (case aB => exact (zs GE1011.out)); (case aF => exact (fun _ _ => trivial)); (case aO => exact (mR_ HO_10.out)); (case aS => exact (below_size (zs GE1011.out))); (case aL => have := LMc46.out; omega); intro v1017 w52 ho hb hg hat; have m0_ := aM (pm_append (by (with_reducible repeat (first | apply pm_alloc | apply pm_drewN | apply pm_drew | refine pm_farN ?_ (by assumption) _)); exact HM.out) (mR_ HO_10.out) hg); clear HM; have HM := m0_; clear m0_; rw [← Ny1016.out] at ho; have n0_ := aM (Kd.R_over' (mR_ HO_6.out) (Kd.R_typed (mR_ HO_10.out)) (by decide) hg); have n1_ := aM (Kd.R_over' (mR_ HO_64.out) (Kd.R_typed (mR_ HO_10.out)) (by decide) hg); have n2_ := aM (blk_grown (g := gb1011) (o := .cells #[.int .i64 ((rd_T59 t1007 x66_4).f0), .int .i64 ((rd_T59 t1007 x66_4).f1)] 59 (0, 0)) (mB_ BK1011.out) hg (Kd.R_ne HO_10.out BK1011.out (by decide))); have n3_ := aM (hb); have n4_ := aM (ho); clear HO_6 HO_64 BK1011 HB HO_10; have HO_6 := n0_; have HO_64 := n1_; have BK1011 := n2_; have HB := n3_; have HO1018 := n4_; clear n0_ n1_ n2_ n3_ n4_; clear ho hb hg hat))
         (try simp only [← hl6_4])
         go_roundg k4
         case measure => have := HK1.out; have := HK2.out; have := HK3.out; have := HK4.out; omega
         case rel => exact ⟨(y1015), (y1016), (wrap64 (x66_4 + 1)), zr, H', ⟨by have := HK1.out; have := HK2.out; have := HK3.out; have := HK4.out; omega⟩, ⟨by (try simp only [hl6_3]); (try simp only [hl6_4]); (with_reducible repeat (first | apply Kd.R_alloc | apply Kd.R_drewN | apply Kd.R_drew)); exact HO_6.out⟩, ⟨by (try simp only [hl6_3]); (try simp only [hl6_4]); (with_reducible repeat (first | apply Kd.R_alloc | apply Kd.R_drewN | apply Kd.R_drew)); exact HO1018.out⟩, ⟨by (try simp only [hl6_3]); (try simp only [hl6_4]); (with_reducible repeat (first | apply Kd.R_alloc | apply Kd.R_drewN | apply Kd.R_drew)); exact Kd.R_mono HO_64.out (fun _ hk => trivial)⟩, ⟨zs GE1011.out⟩, ⟨(by (with_reducible repeat (first | apply pm_alloc | apply pm_drewN | apply pm_drew | refine pm_farN ?_ (by assumption) _)); exact HM.out)⟩⟩
def impl_connected__impl_hexAround.f (k : Nat) (l0 : List (S59))  : Option (Bool) := (impl_parts__impl_hexAround.f k l0).bind fun t1019 => ((slices_Max_int64_int64.f k t1019).bind fun t1022 => (some (t1022 == 0)))
theorem impl_connected__impl_hexAround.calls (k : Nat) (A0 : Option Addr) (c0 : Nat) (l0 : List (S59))  (r : Bool) (w : World) (hr0 : Kd.C k59 w A0 l0.length l0) (hc0 : l0.length ≤ c0) (h : impl_connected__impl_hexAround.f k l0 = some r) :
  Calls Try.prog 44 #[.slice A0 l0.length c0, .func (.func 71) #[] #[]] w fun e w' => e = .returned (.bool r) ∧ Below w.heap.size w w' := by
 have HR0 := aM hr0
 have HC0 := aM hc0
 clear hr0 hc0
 have HB := aM (Below.refl w.heap.size w)
 have H : ((impl_parts__impl_hexAround.f k l0).bind fun t1019 => ((slices_Max_int64_int64.f k t1019).bind fun t1022 => (some (t1022 == 0)))) = some r := h
 clear h
 replace H := Option.bind_eq_some_iff.mp H
 obtain ⟨t1019, A30, H⟩ := H
 replace H : ((slices_Max_int64_int64.f k t1019).bind fun t1022 => (some (t1022 == 0))) = some r := H
 have A3 := aM A30
 clear A30
 replace H := Option.bind_eq_some_iff.mp H
 obtain ⟨t1022, A40, H⟩ := H
 replace H : (some (t1022 == 0)) = some r := H
 have A4 := aM A40
 clear A40
 obtain rfl := Option.some.inj H
 go_enter Try.func44, Try.ntmps44
 go_wp2_with (first | ((with_reducible refine gate_callee (f := 83) rfl ?_); refine goesL_ (some 7) rfl rfl Try.func83 (by kernel_rfl) rfl #[.slice A0 l0.length c0, .func (.func 71) #[] #[]] rfl zm ?_; (with_reducible refine (impl_parts__impl_hexAround.calls k _ _ l0  t1019 _ ?side1 ?side2 A3.out).mono ?_); (case side1 => repeat (first | exact HR0.out | (with_reducible refine Kd.C_alloc ?_ _) | (with_reducible refine Kd.C_drewN ?_ _) | (with_reducible refine Kd.C_drew ?_))); (case side2 => exact HC0.out); rintro e w5 ⟨v1020, rfl, ho0, hb⟩; refine ⟨_, rfl, ?_⟩; have n0_ := aM (Kd.R_lower ho0 (below_size zb)); have n1_ := aM (below_step zb hb); clear HB; have HO1021 := n0_; have HB := n1_; clear n0_ n1_; (try clear hb); (try clear hb2); (try clear hk); (try clear hi); (try clear ho0); obtain ⟨Ao6, co6, eo6⟩ := Kd.R_slice HO1021.out; subst eo6) | ((with_reducible refine gate_callee (f := 82) rfl ?_); refine goesL_ (some 8) rfl rfl Try.func82 (by kernel_rfl) rfl #[.slice Ao6 t1019.length co6] rfl zm ?_; (with_reducible refine (slices_Max_int64_int64.calls k _ _ t1019 t1022 _ ?side1 ?side2 A4.out).mono ?_); (case side1 => exact zc HO1021.out); (case side2 => exact (Kd.R_reads' HO1021.out).2.1); rintro e w7 ⟨rfl, hb⟩; refine ⟨_, rfl, ?_⟩; have n0_ := aM (Kd.R_below (mR_ HO1021.out) hb); have n1_ := aM (below_step zb hb); clear HO1021 HB; have HO1021 := n0_; have HB := n1_; clear n0_ n1_; (try clear hb); (try clear hb2); (try clear hk); (try clear hi)))
 go_ret
 exact ⟨zw, zb⟩
def impl_IsHexConnected.f (k : Nat) (l0 : List (S59)) : Option (Bool) := (impl_IsShape.f k l0).bind fun t1023 => (if t1023 = true then ((impl_connected__impl_hexAround.f k l0).bind fun t1024 => (some t1024)) else (some false))
theorem impl_IsHexConnected.calls (k : Nat) (A0 : Option Addr) (c0 : Nat) (l0 : List (S59)) (r : Bool) (w : World) (hr0 : Kd.C k59 w A0 l0.length l0) (hc0 : l0.length ≤ c0) (h : impl_IsHexConnected.f k l0 = some r) :
  Calls Try.prog 30 #[.slice A0 l0.length c0] w fun e w' => e = .returned (.bool r) ∧ Below w.heap.size w w' := by
 have HR0 := aM hr0
 have HC0 := aM hc0
 clear hr0 hc0
 have HB := aM (Below.refl w.heap.size w)
 have H : ((impl_IsShape.f k l0).bind fun t1023 => (if t1023 = true then ((impl_connected__impl_hexAround.f k l0).bind fun t1024 => (some t1024)) else (some false))) = some r := h
 clear h
 replace H := Option.bind_eq_some_iff.mp H
 obtain ⟨t1023, A20, H⟩ := H
 replace H : (if t1023 = true then ((impl_connected__impl_hexAround.f k l0).bind fun t1024 => (some t1024)) else (some false)) = some r := H
 have A2 := aM A20
 clear A20
 by_cases c3 : t1023 = true
 rotate_left
 ·replace c3 := Bool.eq_false_iff.mpr c3
  subst c3
  have H1 : (some false) = some r := by rw [if_neg (show ¬ (false = true) by decide)] at H; exact H
  clear H
  have H := H1
  clear H1
  obtain rfl := Option.some.inj H
  go_enter Try.func30, Try.ntmps30
  go_wp2_with (first | ((with_reducible refine gate_callee (f := 40) rfl ?_); refine goesL_ (some 4) rfl rfl Try.func40 (by kernel_rfl) rfl #[.slice A0 l0.length c0] rfl zm ?_; (with_reducible refine (impl_IsShape.calls k _ _ l0 false _ ?side1 ?side2 A2.out).mono ?_); (case side1 => repeat (first | exact HR0.out | (with_reducible refine Kd.C_alloc ?_ _) | (with_reducible refine Kd.C_drewN ?_ _) | (with_reducible refine Kd.C_drew ?_))); (case side2 => exact HC0.out); rintro e w7 ⟨rfl, hb⟩; refine ⟨_, rfl, ?_⟩; have n0_ := aM (below_step zb hb); clear HB; have HB := n0_; clear n0_; (try clear hb); (try clear hb2); (try clear hk); (try clear hi)))
  go_ret
  exact ⟨zw, zb⟩
 subst c3
 have H1 : ((impl_connected__impl_hexAround.f k l0).bind fun t1024 => (some t1024)) = some r := by rw [if_pos rfl] at H; exact H
 clear H
 have H := H1
 clear H1
 replace H := Option.bind_eq_some_iff.mp H
 obtain ⟨t1024, A40, H⟩ := H
 replace H : (some t1024) = some r := H
 have A4 := aM A40
 clear A40
 obtain rfl := Option.some.inj H
 go_enter Try.func30, Try.ntmps30
 go_wp2_with (first | ((with_reducible refine gate_callee (f := 40) rfl ?_); refine goesL_ (some 4) rfl rfl Try.func40 (by kernel_rfl) rfl #[.slice A0 l0.length c0] rfl zm ?_; (with_reducible refine (impl_IsShape.calls k _ _ l0 true _ ?side1 ?side2 A2.out).mono ?_); (case side1 => repeat (first | exact HR0.out | (with_reducible refine Kd.C_alloc ?_ _) | (with_reducible refine Kd.C_drewN ?_ _) | (with_reducible refine Kd.C_drew ?_))); (case side2 => exact HC0.out); rintro e w5 ⟨rfl, hb⟩; refine ⟨_, rfl, ?_⟩; have n0_ := aM (below_step zb hb); clear HB; have HB := n0_; clear n0_; (try clear hb); (try clear hb2); (try clear hk); (try clear hi)) | (go_at_call 44; (with_reducible refine (impl_connected__impl_hexAround.calls k _ _ l0  t1024 _ ?side1 ?side2 A4.out).mono ?_); (case side1 => repeat (first | exact (Kd.C_below HR0.out HB.out) | (with_reducible refine Kd.C_alloc ?_ _) | (with_reducible refine Kd.C_drewN ?_ _) | (with_reducible refine Kd.C_drew ?_))); (case side2 => exact HC0.out); rintro e w6 ⟨rfl, hb⟩; have n0_ := aM (below_step zb hb); clear HB; have HB := n0_; clear n0_; (try clear hb); (try clear hb2); (try clear hk); (try clear hi)))
 go_ret
 exact ⟨zw, zb⟩
def spec_IsHexConnected.f (k : Nat) (l0 : List (S59)) : Option (Bool) := (spec_IsShape.f k l0).bind fun t1025 => (if t1025 = true then ((spec_l07Connected.f k 1 l0).bind fun t1026 => (some t1026)) else (some false))
theorem spec_IsHexConnected.calls (k : Nat) (A0 : Option Addr) (c0 : Nat) (l0 : List (S59)) (r : Bool) (w : World) (hr0 : Kd.C k59 w A0 l0.length l0) (hc0 : l0.length ≤ c0) (h : spec_IsHexConnected.f k l0 = some r) :
  Calls Try.prog 31 #[.slice A0 l0.length c0] w fun e w' => e = .returned (.bool r) ∧ Below w.heap.size w w' := by
 have HR0 := aM hr0
 have HC0 := aM hc0
 clear hr0 hc0
 have HB := aM (Below.refl w.heap.size w)
 have H : ((spec_IsShape.f k l0).bind fun t1025 => (if t1025 = true then ((spec_l07Connected.f k 1 l0).bind fun t1026 => (some t1026)) else (some false))) = some r := h
 clear h
 replace H := Option.bind_eq_some_iff.mp H
 obtain ⟨t1025, A20, H⟩ := H
 replace H : (if t1025 = true then ((spec_l07Connected.f k 1 l0).bind fun t1026 => (some t1026)) else (some false)) = some r := H
 have A2 := aM A20
 clear A20
 by_cases c3 : t1025 = true
 rotate_left
 ·replace c3 := Bool.eq_false_iff.mpr c3
  subst c3
  have H1 : (some false) = some r := by rw [if_neg (show ¬ (false = true) by decide)] at H; exact H
  clear H
  have H := H1
  clear H1
  obtain rfl := Option.some.inj H
  go_enter Try.func31, Try.ntmps31
  go_wp2_with (first | ((with_reducible refine gate_callee (f := 68) rfl ?_); refine goesL_ (some 4) rfl rfl Try.func68 (by kernel_rfl) rfl #[.slice A0 l0.length c0] rfl zm ?_; (with_reducible refine (spec_IsShape.calls k _ _ l0 false _ ?side1 ?side2 A2.out).mono ?_); (case side1 => repeat (first | exact HR0.out | (with_reducible refine Kd.C_alloc ?_ _) | (with_reducible refine Kd.C_drewN ?_ _) | (with_reducible refine Kd.C_drew ?_))); (case side2 => exact HC0.out); rintro e w7 ⟨rfl, hb⟩; refine ⟨_, rfl, ?_⟩; have n0_ := aM (below_step zb hb); clear HB; have HB := n0_; clear n0_; (try clear hb); (try clear hb2); (try clear hk); (try clear hi)))
  go_ret
  exact ⟨zw, zb⟩
 subst c3
 have H1 : ((spec_l07Connected.f k 1 l0).bind fun t1026 => (some t1026)) = some r := by rw [if_pos rfl] at H; exact H
 clear H
 have H := H1
 clear H1
 replace H := Option.bind_eq_some_iff.mp H
 obtain ⟨t1026, A40, H⟩ := H
 replace H : (some t1026) = some r := H
 have A4 := aM A40
 clear A40
 obtain rfl := Option.some.inj H
 go_enter Try.func31, Try.ntmps31
 go_wp2_with (first | ((with_reducible refine gate_callee (f := 68) rfl ?_); refine goesL_ (some 4) rfl rfl Try.func68 (by kernel_rfl) rfl #[.slice A0 l0.length c0] rfl zm ?_; (with_reducible refine (spec_IsShape.calls k _ _ l0 true _ ?side1 ?side2 A2.out).mono ?_); (case side1 => repeat (first | exact HR0.out | (with_reducible refine Kd.C_alloc ?_ _) | (with_reducible refine Kd.C_drewN ?_ _) | (with_reducible refine Kd.C_drew ?_))); (case side2 => exact HC0.out); rintro e w5 ⟨rfl, hb⟩; refine ⟨_, rfl, ?_⟩; have n0_ := aM (below_step zb hb); clear HB; have HB := n0_; clear n0_; (try clear hb); (try clear hb2); (try clear hk); (try clear hi)) | (go_at_call 47; (with_reducible refine (spec_l07Connected.calls k 1 _ _ l0 t1026 _ ?side1 ?side2 A4.out).mono ?_); (case side1 => repeat (first | exact (Kd.C_below HR0.out HB.out) | (with_reducible refine Kd.C_alloc ?_ _) | (with_reducible refine Kd.C_drewN ?_ _) | (with_reducible refine Kd.C_drew ?_))); (case side2 => exact HC0.out); rintro e w6 ⟨rfl, hb⟩; have n0_ := aM (below_step zb hb); clear HB; have HB := n0_; clear n0_; (try clear hb); (try clear hb2); (try clear hk); (try clear hi)))
 go_ret
 exact ⟨zw, zb⟩
def impl_HexForm.f (k : Nat) (l0 : List (S59)) (a1 : Int) : Option ((List (S59)) × Int) := (impl_IsShape.f k l0).bind fun t1027 => (if t1027 = true then ((impl_isLatticeTurn.f a1).bind fun t1028 => (if t1028 = true then ((impl_hexForm.f k l0 a1).bind fun t1029 => ((impl_IsShape.f k t1029).bind fun t1032 => (if t1032 = true then (some (t1029, 0)) else (some (([] : List (S59)), 3))))) else (some (([] : List (S59)), 2)))) else (some (([] : List (S59)), 1)))
end Go.Proofs.Ytlnliahadgmbcaa.F
end
