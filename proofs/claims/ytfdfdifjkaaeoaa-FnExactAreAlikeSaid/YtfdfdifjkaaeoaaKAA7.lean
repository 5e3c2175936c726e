/- The row of FnExactAreAlike, with what it needs: text 8 of 12. -/
import Derived.Test.YtfdfdifjkaaeoaaKAA6
set_option maxHeartbeats 8000000
set_option maxRecDepth 100000
section
namespace Go.Proofs.Ytfdfdifjkaaeoaa.F
open Go.RowKit Go.Proofs.YtfdfdifjkaaeoaaW.PrintWords Go.Proofs.YtfdfdifjkaaeoaaW.PrintLast Go.Proofs.YtfdfdifjkaaeoaaW.PrintMore
attribute [local go_sem] max2_int min2_int max_two min_two max_three min_three max_four min_four
set_option linter.unusedVariables false
set_option linter.unusedSimpArgs false
open Go.Sort
section
variable {W0 w W : World} {ok : Nat → Prop} {base g cap n m : Nat} {os : Array Obj}
theorem At.holds {d : Array (El W0 ok)} (h : At w base g cap d) : Holds El.v w g 0 d := by
  obtain ⟨cur, h1, h2, h3⟩ := h.cells
  intro t ht
  refine ⟨?_, by rw [Nat.zero_add]; exact blk_frozen h1 t⟩
  rw [Nat.zero_add, blk_cell h1 t]
  have e1 : cur[t]? = (d.toList.map El.v)[t]? := by
    rw [← h3, List.getElem?_take_of_lt ht, Array.getElem?_toList]
  rw [e1, List.getElem?_map, Array.getElem?_toList, Array.getElem?_eq_getElem ht, getElem!_pos d t ht]
  rfl
theorem At.sorted {d d' : Array (El W0 ok)} (h : At w base g cap d) (hs : d'.size = d.size) : At (sortWorld El.v w g 0 n d' os) base g cap d' := by
  obtain ⟨cur, h1, h2, h3⟩ := h.cells
  refine ⟨h.base, h.max, hs ▸ h.size, _, sortW1_heap El.v w g n d' os h1, by simpa [Go.Sort.putCells] using h2, putCells1_take El.v d' cur ?_⟩
  have := h.size
  omega
theorem At.cut {d : Array (El W0 ok)} (h : At w base g cap d) (q : Nat) (hq : q ≤ d.size) : At w base g cap (d.toList.take q).toArray := by
  obtain ⟨cur, h1, h2, h3⟩ := h.cells
  have hs := h.size
  refine ⟨h.base, h.max, by simp; omega, cur, h1, h2, ?_⟩
  have e : (d.toList.take q).toArray.size = q := by simp; omega
  rw [e]
  show _ = (d.toList.take q).map El.v
  rw [List.map_take, ← h3, List.take_take, Nat.min_eq_left hq]
theorem At.raw {d : Array (El W0 ok)} (h : At w base g cap d) : (Kd.raw 1).R 24 w base (fun k => some k = (Value.slice (some ⟨g, 0, none⟩) d.size cap).ownBlock) (.slice (some ⟨g, 0, none⟩) d.size cap) (d.toList.map fun x => [x.v]) := by
  obtain ⟨cur, h1, h2, h3⟩ := h.cells
  have hl : (d.toList.map fun x : El W0 ok => [x.v]).length = d.size := by simp
  refine ⟨fun k hk => hk.symm, d.toList.map El.v, ⟨by rw [hl]; simp [Kd.raw], .inr ⟨g, cap, cur, by rw [hl], h.base, h1, by rw [hl]; exact h.size, h.max, by simpa [Kd.raw] using h2, by rw [hl]; simpa [Kd.raw] using h3⟩⟩, by rw [hl]; simp [Kd.raw], ?_⟩
  intro j p hp
  rw [List.getElem?_map, Option.map_eq_some_iff] at hp
  obtain ⟨x, hx, rfl⟩ := hp
  have hj : j < (d.toList.map El.v).length := by
    have := (List.getElem?_eq_some_iff.1 hx).1
    simpa using this
  have e : ((d.toList.map El.v).drop (j * (Kd.raw 1).sz)).take (Kd.raw 1).sz = [x.v] := by
    show ((d.toList.map El.v).drop (j * 1)).take 1 = _
    rw [Nat.mul_one, List.drop_eq_getElem_cons hj]
    have : (d.toList.map El.v)[j]? = some x.v := by rw [List.getElem?_map, hx]; rfl
    rw [List.getElem?_eq_getElem hj] at this
    simp [Option.some.inj this]
  rw [e]
  exact ⟨rfl, rfl, fun u hu => by rw [List.mem_singleton.1 hu]; exact x.one⟩
end
section
variable {w W : World} {ok : Nat → Prop} {base g cap n : Nat} {xs : List (List S59)}
abbrev inn (ok : Nat → Prop) (g : Nat) : Nat → Prop := fun k => ok k ∧ k ≠ g
theorem inn_of {k : Nat} {c : Nat} (h : ok k ∧ some k ≠ (Value.slice (some ⟨g, 0, none⟩) n c).ownBlock) : inn ok g k := ⟨h.1, fun e => h.2 (by rw [e]; rfl)⟩
theorem inn_to {k : Nat} {c : Nat} (h : inn ok g k) : ok k ∧ some k ≠ (Value.slice (some ⟨g, 0, none⟩) n c).ownBlock := ⟨h.1, fun e => h.2 (by injection e)⟩
end
section
variable {w W : World} {ok : Nat → Prop} {base g cap n : Nat} {xs : List (List S59)}
theorem S_open (h : Kd.S (Kd.slice 59 k59) 24 w base ok (.slice (some ⟨g, 0, none⟩) n cap) xs) : ok g ∧ n = xs.length ∧ ∃ f : Nat → Nat, ∃ d : Array (El w (inn ok g)), d.toList.map El.l = xs ∧ At w base g cap d ∧ d.toList.map El.j = List.range d.size ∧ ∀ x ∈ d.toList, (Kd.slice 59 k59).M w base (fun k => inn ok g k ∧ f k = x.j) x.l [x.v] := by
  obtain ⟨f, h1, inner, ⟨h2, h3⟩, h4, h5⟩ := h
  rcases h3 with ⟨h3, _⟩ | ⟨g', cap', cur, h3, h6, h7, h8, h9, h10, h11⟩
  · cases h3
  injection h3 with h3 h13 h12
  injection h3 with h3
  injection h3 with h3
  subst h3 h12
  have hs1 : (Kd.tag f (Kd.slice 59 k59)).sz = 1 := rfl
  rw [hs1, Nat.mul_one] at h2 h4
  rw [hs1, Nat.mul_one] at h11
  rw [hs1, Nat.mul_one] at h10
  rw [List.length_zipIdx] at h13 h2 h4 h8 h11
  have hel : ∀ j : Fin xs.length, (Kd.slice 59 k59).M w base (fun k => inn ok g k ∧ f k = j.1) xs[j.1] [inner[j.1]'(by omega)] := fun j => by
    have h := h5 j.1 (xs[j.1], j.1) (Kd.zip_at (List.getElem?_eq_getElem j.2))
    have e : (inner.drop (j.1 * (Kd.tag f (Kd.slice 59 k59)).sz)).take (Kd.tag f (Kd.slice 59 k59)).sz = [inner[j.1]'(by omega)] := by
      rw [hs1, Nat.mul_one, List.drop_eq_getElem_cons (by omega)]
      rfl
    rw [e] at h
    exact Kd.M_mono _ (fun k hk => ⟨inn_of hk.1, hk.2⟩) h
  refine ⟨h1 g rfl, h13, f, Array.ofFn fun j : Fin xs.length => El.mk (inner[j.1]'(by omega)) xs[j.1] j.1 (Kd.FK_mono (Kd.FK_of_M (hel j)) (fun _ hk => hk.1)), ?_, ⟨h6, h9, by rw [Array.size_ofFn]; exact h8, cur, h7, h10, ?_⟩, ?_, ?_⟩
  · apply List.ext_getElem
    · simp
    · intro i hi hi2
      simp
  · rw [Array.size_ofFn, h11]
    apply List.ext_getElem
    · simp; omega
    · intro i hi hi2
      simp
  · apply List.ext_getElem
    · simp
    · intro i hi hi2
      simp
  · intro x hx
    obtain ⟨i, hi, rfl⟩ := List.getElem_of_mem hx
    have hi' : i < xs.length := by simpa using hi
    have := hel ⟨i, hi'⟩
    simpa using this
theorem S_close {d0 : World} {f : Nat → Nat} {d : Array (El d0 (inn ok g))} (hok : ok g) (h : At w base g cap d) (hs : Same d0 w (inn ok g)) (hn : (d.toList.map El.j).Nodup) (hM : ∀ x ∈ d.toList, (Kd.slice 59 k59).M d0 base (fun k => inn ok g k ∧ f k = x.j) x.l [x.v]) :
    Kd.S (Kd.slice 59 k59) 24 w base ok (.slice (some ⟨g, 0, none⟩) d.size cap) (d.toList.map El.l) := by
  obtain ⟨cur, h1, h2, h3⟩ := h.cells
  have hl : (d.toList.map El.l).zipIdx.length = d.size := by simp
  refine ⟨fun k => (d.toList.map El.j).idxOf (f k), fun k hk => ?_, d.toList.map El.v, ⟨by rw [hl]; simp [Kd.tag, Kd.slice], .inr ⟨g, cap, cur, by rw [hl], h.base, h1, by rw [hl]; exact h.size, h.max, by simpa [Kd.tag, Kd.slice] using h2, by rw [hl]; simpa [Kd.tag, Kd.slice] using h3⟩⟩, by rw [hl]; simp [Kd.tag, Kd.slice], ?_⟩
  · simp [Value.ownBlock] at hk
    exact hk ▸ hok
  · intro j p hp
    rw [List.getElem?_zipIdx, Nat.zero_add, Option.map_eq_some_iff] at hp
    obtain ⟨l, hx, rfl⟩ := hp
    rw [List.getElem?_map, Option.map_eq_some_iff] at hx
    obtain ⟨x, hx, rfl⟩ := hx
    have hj : j < (d.toList.map El.v).length := by
      have := (List.getElem?_eq_some_iff.1 hx).1
      simpa using this
    have e : ((d.toList.map El.v).drop (j * 1)).take 1 = [x.v] := by
      rw [Nat.mul_one, List.drop_eq_getElem_cons hj]
      have : (d.toList.map El.v)[j]? = some x.v := by rw [List.getElem?_map, hx]; rfl
      rw [List.getElem?_eq_getElem hj] at this
      simp [Option.some.inj this]
    show (Kd.slice 59 k59).M w base _ x.l (((d.toList.map El.v).drop (j * 1)).take 1)
    rw [e]
    have hm := hM x (List.mem_of_getElem? hx)
    refine Kd.M_mono _ (fun k hk => ⟨inn_to hk.1, ?_⟩) (Kd.M_step hm (fun k hk hlt => hs k hk.1 hlt))
    have hj' : j < (d.toList.map El.j).length := by simpa using hj
    have ex : (d.toList.map El.j)[j] = x.j := by
      have : (d.toList.map El.j)[j]? = some x.j := by rw [List.getElem?_map, hx]; rfl
      rw [List.getElem?_eq_getElem hj'] at this
      exact Option.some.inj this
    show List.idxOf (f k) (d.toList.map El.j) = j
    rw [hk.2, ← ex]
    exact hn.idxOf_getElem j hj'
end
theorem compareF_rounds (a b : List S59) (hl : a.length = b.length) (hs : a.length ≤ 9223372036854775807) : ∀ (suf pre : List S59), a = pre ++ suf → ∀ k, suf.length < k → impl_Cell_155__impl_compareCells.l0 k a b a (a.length : Int) (pre.length : Int) = some (ordL suf (b.drop pre.length)) := by
  intro suf
  induction suf with
  | nil =>
    intro pre hx k hk
    obtain ⟨k, rfl⟩ : ∃ m, k = m + 1 := ⟨k - 1, by omega⟩
    rw [List.append_nil] at hx
    subst hx
    simp only [impl_Cell_155__impl_compareCells.l0]
    rw [if_neg (by omega), if_neg (by omega)]
    rfl
  | cons c suf ih =>
    intro pre hx k hk
    obtain ⟨k, rfl⟩ : ∃ m, k = m + 1 := ⟨k - 1, by omega⟩
    have hla : a.length = pre.length + (suf.length + 1) := by rw [hx]; simp
    have hpb : pre.length < b.length := by omega
    have ea : rd_T59 a (pre.length : Int) = c := by
      unfold rd_T59
      rw [hx]
      simp [List.getD]
    have eb : rd_T59 b (pre.length : Int) = b[pre.length] := by
      unfold rd_T59
      rw [List.getD_eq_getElem?_getD, Int.toNat_natCast, List.getElem?_eq_getElem hpb]
      rfl
    have ew : wrap64 ((pre.length : Int) + 1) = ((pre ++ [c]).length : Int) := by
      rw [List.length_append, List.length_singleton]
      simp only [wrap64]
      omega
    have hi := ih (pre ++ [c]) (by rw [hx]; simp) k (by simp at hk; omega)
    simp only [impl_Cell_155__impl_compareCells.l0]
    rw [if_pos (by omega), if_pos (by omega), if_pos (by omega), if_neg (by omega), if_pos (by omega), ea, eb, cmpV_eq, Option.bind_some, ew, hi, List.drop_eq_getElem_cons hpb, ordL, List.length_append, List.length_singleton]
    split <;> rfl
theorem compare_rounds (a b : List S59) (hs : a.length ≤ 9223372036854775807) : ∃ k, impl_compareShapes.f k a b = some (ordS a b) := by
  refine ⟨a.length + 1, ?_⟩
  unfold impl_compareShapes.f ordS
  by_cases hl : a.length = b.length
  · rw [if_pos hl, if_pos (by omega)]
    have := compareF_rounds a b hl hs a [] rfl (a.length + 1) (by omega)
    unfold impl_Cell_155__impl_compareCells.f
    simp only [List.length_nil, Int.natCast_zero, List.drop_zero] at this
    rw [this]
    rfl
  · rw [if_neg hl, if_neg (by omega)]
    split
    · rw [if_pos (by omega)]
    · rw [if_neg (by omega)]
set_option maxHeartbeats 4000000 in
theorem impl_Cell_139__impl_compareShapes.raw {W0 w : World} {ok : Nat → Prop} {base g cap : Nat} (d : Array (El W0 ok)) (hA : At w base g cap d) (hS : Same W0 w ok) (hg : ¬ ok g) (hsz : d.size < 4611686018427387904) :
    Calls Try.prog 139 #[.slice (some ⟨g, 0, none⟩) d.size cap, .func (.func 140) #[] #[]] w fun e w' => e = .returned (.tuple #[]) ∧ ∃ (d' : Array (El W0 ok)) (n : Nat) (os : Array Obj), d'.toList.Perm d.toList ∧ d'.toList.map El.l = sortS (d.toList.map El.l) ∧ w' = sortWorld El.v w g 0 n d' os := by
  have eg : ∀ args w, (callFunc 140 args).run Try.prog w = .ok (.enter 140 args) w := enters_of Try.func140 (by kernel_rfl) rfl
  have hcmp : CmpLays1 Try.prog 140 #[] El.v cfE g 0 d.size w := fun m os dk hdk x y => by
    have hgw := sortW1_grown El.v w g m dk os
    obtain ⟨A0, c0, e0, hc0, hC0⟩ := x.now (hS.grown hgw hg)
    obtain ⟨A1, c1, e1, hc1, hC1⟩ := y.now (hS.grown hgw hg)
    obtain ⟨k, hk⟩ := compare_rounds x.l y.l hC0.2.1
    rw [e0, e1]
    exact (impl_compareShapes.callsG k A0 c0 x.l A1 c1 y.l (ordS x.l y.l) _ hC0 hc0 hC1 hc1 hk).mono fun _ _ hh => ⟨hh.1, hh.2.gr⟩
  have hcon := Any.slices_SortFunc sortS_lays El.v El.one cfE swoE 140 #[] g 0 cap d w eg hcmp hA.holds hA.lt hsz
  refine (show Calls Try.prog 139 #[.slice (some ⟨g, 0, none⟩) d.size cap, .func (.func 140) #[] #[]] w _ from hcon).mono ?_
  rintro e w' ⟨rfl, d', n, os, hp, hs', rfl⟩
  have hP : d'.toList.Perm d.toList := by
    have := hp.2.2
    have e1 : d'.extract 0 d.size = d' := by rw [← hp.1]; exact Array.extract_size
    have e2 : d.extract 0 d.size = d := Array.extract_size
    rwa [e1, e2] at this
  refine ⟨rfl, d', n, os, hP, ?_, rfl⟩
  refine List.Perm.eq_of_pairwise (le := fun x y => (!ltOf ordS y x) = true) ?_ ?_ ?_ ((hP.map El.l).trans (List.mergeSort_perm _ _).symm)
  · intro a b _ _ h1 h2
    simp only [Bool.not_eq_true'] at h1 h2
    exact antiS a b h2 h1
  · rw [List.pairwise_map, List.pairwise_iff_getElem]
    intro i j hi hj hij
    have hi' : i < d'.size := by simpa using hi
    have hj' : j < d'.size := by simpa using hj
    have := hs' i j (Nat.zero_le _) hij (by rw [← hp.1]; exact hj')
    rw [getElem!_pos d' i hi', getElem!_pos d' j hj'] at this
    simp only [Bool.not_eq_true', Array.getElem_toList]
    exact this
  · have := List.pairwise_mergeSort (le := fun x y : List S59 => !ltOf ordS y x) (fun a b c h1 h2 => by
      simp only [Bool.not_eq_true'] at *
      exact swoS.ntrans c b a h2 h1) (fun a b => by
      rw [Bool.or_eq_true]
      by_cases e : ltOf ordS b a = true
      · right
        simp only [Bool.not_eq_true']
        rw [ltS_iff]
        unfold ltOf at e
        rw [decide_eq_true_eq] at e
        rw [ordS_anti]
        omega
      · left
        simpa using e) (d.toList.map El.l)
    exact this
def impl_equalShapes.f (k : Nat) (l0 : List (S59)) (l1 : List (S59)) : Option (Bool) := (impl_Cell_116.f k l0 l1).bind fun t827 => (some t827)
theorem impl_equalShapes.calls (k : Nat) (A0 : Option Addr) (c0 : Nat) (l0 : List (S59)) (A1 : Option Addr) (c1 : Nat) (l1 : List (S59)) (r : Bool) (w : World) (hr0 : Kd.C k59 w A0 l0.length l0) (hc0 : l0.length ≤ c0) (hr1 : Kd.C k59 w A1 l1.length l1) (hc1 : l1.length ≤ c1) (h : impl_equalShapes.f k l0 l1 = some r) :
  Calls Try.prog 142 #[.slice A0 l0.length c0, .slice A1 l1.length c1] w fun e w' => e = .returned (.bool r) ∧ Drawn0 w w' := by
 have HR0 := aM hr0
 have HC0 := aM hc0
 clear hr0 hc0
 have HR1 := aM hr1
 have HC1 := aM hc1
 clear hr1 hc1
 have H : ((impl_Cell_116.f k l0 l1).bind fun t827 => (some t827)) = some r := h
 clear h
 replace H := Option.bind_eq_some_iff.mp H
 obtain ⟨t827, A30, H⟩ := H
 replace H : (some t827) = some r := H
 have A3 := aM A30
 clear A30
 obtain rfl := Option.some.inj H
 go_enter Try.func142, Try.ntmps142
 go_wp2_with (first | ((with_reducible refine gate_callee (f := 116) rfl ?_); refine goesL_ (some 7) rfl rfl Try.func116 (by kernel_rfl) rfl #[.slice A0 l0.length c0, .slice A1 l1.length c1] rfl zm ?_; (with_reducible refine (impl_Cell_116.calls k _ _ l0 _ _ l1 t827 _ ?side1 ?side2 ?side3 ?side4 A3.out).mono ?_); (case side1 => repeat (first | exact HR0.out | (with_reducible refine Kd.C_alloc ?_ _) | (with_reducible refine Kd.C_drewN ?_ _) | (with_reducible refine Kd.C_drew ?_))); (case side2 => exact HC0.out); (case side3 => repeat (first | exact HR1.out | (with_reducible refine Kd.C_alloc ?_ _) | (with_reducible refine Kd.C_drewN ?_ _) | (with_reducible refine Kd.C_drew ?_))); (case side4 => exact HC1.out); rintro e w' ⟨rfl, ⟨nd, rfl⟩⟩; refine ⟨_, rfl, ?_⟩))
 go_ret
 exact ⟨by first | rfl | (simp; done) | (simp [*]; done), by repeat (first | exact Drawn0.refl _ | apply Drawn0.step)⟩
end Go.Proofs.Ytfdfdifjkaaeoaa.F
end
section
namespace Go.Proofs.Ytfdfdifjkaaeoaa.F
open Go.RowKit Go.Proofs.YtfdfdifjkaaeoaaW.PrintWords Go.Proofs.YtfdfdifjkaaeoaaW.PrintLast Go.Proofs.YtfdfdifjkaaeoaaW.PrintMore
attribute [local go_sem] max2_int min2_int max_two min_two max_three min_three max_four min_four
set_option linter.unusedVariables false
set_option linter.unusedSimpArgs false
open Go.Sort
def compG {β : Type} [DecidableEq β] (p : β) : List β → List β
  | [] => []
  | b :: r => if b = p then compG b r else b :: compG b r
def compF {β : Type} [DecidableEq β] : List β → List β
  | [] => []
  | a :: r => a :: compG a r
theorem compG_snoc {β : Type} [DecidableEq β] : ∀ (l : List β) (p b : β), compG p (l ++ [b]) = if b = (p :: l).getLast (by simp) then compG p l else compG p l ++ [b]
  | [], p, b => by
    by_cases h : b = p
    · simp [compG, h]
    · simp [compG, h]
  | a :: r, p, b => by
    have ih := compG_snoc r a b
    rw [List.cons_append, compG, compG, ih]
    have e : (p :: a :: r).getLast (by simp) = (a :: r).getLast (by simp) := List.getLast_cons (by simp)
    rw [e]
    by_cases h : a = p
    · rw [if_pos h, if_pos h]
    · rw [if_neg h, if_neg h]
      split
      · rfl
      · rfl
theorem compF_snoc {β : Type} [DecidableEq β] (l : List β) (b : β) (h : l ≠ []) : compF (l ++ [b]) = if b = l.getLast h then compF l else compF l ++ [b] := by
  cases l with
  | nil => exact absurd rfl h
  | cons a r =>
    rw [List.cons_append, compF, compF, compG_snoc]
    split
    · rfl
    · rfl
theorem compG_len {β : Type} [DecidableEq β] : ∀ (l : List β) (p : β), (compG p l).length ≤ l.length
  | [], _ => Nat.le_refl _
  | a :: r, p => by
    rw [compG]
    have := compG_len r a
    split
    · rw [List.length_cons]; omega
    · rw [List.length_cons, List.length_cons]; omega
theorem compF_len {β : Type} [DecidableEq β] (l : List β) : (compF l).length ≤ l.length := by
  cases l with
  | nil => exact Nat.le_refl _
  | cons a r => rw [compF, List.length_cons, List.length_cons]; have := compG_len r a; omega
theorem take_snoc_get {β : Type} (l : List β) (m : Nat) (h : m < l.length) : l.take (m + 1) = l.take m ++ [l[m]] := by
  rw [List.take_succ_eq_append_getElem h]
theorem compF_step {β : Type} [DecidableEq β] (l : List β) (m : Nat) (h : m < l.length) (h0 : 0 < m) : compF (l.take (m + 1)) = if l[m] = l[m - 1]'(by omega) then compF (l.take m) else compF (l.take m) ++ [l[m]] := by
  have hn : l.take m ≠ [] := by
    intro e
    have := congrArg List.length e
    rw [List.length_take, List.length_nil] at this
    omega
  rw [take_snoc_get l m h, compF_snoc _ _ hn]
  have e : (l.take m).getLast hn = l[m - 1]'(by omega) := by
    rw [List.getLast_eq_getElem]
    simp only [List.length_take, List.getElem_take]
    congr 1
    omega
  rw [e]
theorem take_sub {β : Type} (l : List β) {n m : Nat} (h : n ≤ m) : (l.take n).Sublist (l.take m) := by
  have : l.take n = (l.take m).take n := by rw [List.take_take, Nat.min_eq_left h]
  rw [this]
  exact List.take_sublist _ _
structure CompIv {α β : Type} [Inhabited α] [DecidableEq β] (key : α → β) (d : Array α) (m kk : Nat) (dk : Array α) : Prop where
  size : dk.size = d.size
  lt : kk < m
  le : m ≤ d.size
  low : (dk.toList.take kk).map key = compF ((d.toList.map key).take m)
  high : ∀ j, kk ≤ j → dk[j]! = d[j]!
  sub : (dk.toList.take kk).Sublist (d.toList.take m)
section
variable {α β : Type} [Inhabited α] [DecidableEq β] {key : α → β} {d dk : Array α} {m kk : Nat}
def AllKeep (key : α → β) (d : Array α) (m : Nat) : Prop := m ≤ d.size ∧ compF ((d.toList.map key).take m) = (d.toList.map key).take m
omit [Inhabited α] in
theorem AllKeep.one (h : 1 ≤ d.size) : AllKeep key d 1 := by
  refine ⟨h, ?_⟩
  cases hd : d.toList with
  | nil =>
    have e : d.toList.length = 0 := by rw [hd]; rfl
    rw [Array.length_toList] at e
    omega
  | cons a r => simp [compF, compG]
omit [DecidableEq β] in
theorem key_get (h : m < d.size) : (d.toList.map key)[m]'(by simpa using h) = key d[m]! := by
  rw [List.getElem_map, getElem!_pos d m h]
  simp
theorem AllKeep.step (h : AllKeep key d m) (h0 : 0 < m) (hm : m < d.size) (hk : key d[m]! ≠ key d[m - 1]!) : AllKeep key d (m + 1) := by
  refine ⟨hm, ?_⟩
  have hl : m < (d.toList.map key).length := by simpa using hm
  rw [compF_step _ m hl h0, key_get hm, key_get (by omega), if_neg hk, h.2, take_snoc_get _ m hl, key_get hm]
theorem CompIv.start (h : AllKeep key d kk) (h0 : 0 < kk) (hm : kk < d.size) (hk : key d[kk]! = key d[kk - 1]!) : CompIv key d (kk + 1) kk d where
  size := rfl
  lt := Nat.lt_succ_self _
  le := hm
  low := by
    have hl : kk < (d.toList.map key).length := by simpa using hm
    rw [compF_step _ kk hl h0, key_get hm, key_get (by omega), if_pos hk, h.2, List.map_take]
  high := fun _ _ => rfl
  sub := take_sub _ (Nat.le_succ _)
theorem CompIv.skip (h : CompIv key d m kk dk) (hm : m < d.size) (hk : key d[m]! = key d[m - 1]!) : CompIv key d (m + 1) kk dk where
  size := h.size
  lt := by have := h.lt; omega
  le := hm
  low := by
    have hl : m < (d.toList.map key).length := by simpa using hm
    have := h.lt
    rw [compF_step _ m hl (by omega), key_get hm, key_get (by omega), if_pos hk, h.low]
  high := h.high
  sub := h.sub.trans (take_sub _ (Nat.le_succ _))
omit [Inhabited α] in
theorem take_set {l : List α} {k : Nat} {x : α} (h : k < l.length) : (l.set k x).take (k + 1) = l.take k ++ [x] := by
  rw [take_snoc_get _ k (by simpa using h), List.take_set_of_le (Nat.le_refl _)]
  simp
theorem CompIv.keep (h : CompIv key d m kk dk) (hm : m < d.size) (hk : key d[m]! ≠ key d[m - 1]!) : CompIv key d (m + 1) (kk + 1) (dk.setIfInBounds kk d[m]!) where
  size := by simp [h.size]
  lt := by have := h.lt; omega
  le := hm
  low := by
    have hl : m < (d.toList.map key).length := by simpa using hm
    have h1 := h.lt
    have h2 := h.size
    rw [compF_step _ m hl (by omega), key_get hm, key_get (by omega), if_neg hk, ← h.low]
    have hkk : kk < dk.toList.length := by simp; omega
    rw [Array.toList_setIfInBounds, take_set hkk, List.map_append]
    rfl
  high := fun j hj => by rw [Go.Sort.getElem!_set_other dk kk j _ (by omega), h.high j (by omega)]
  sub := by
    have h1 := h.lt
    have h2 := h.size
    have hkk : kk < dk.toList.length := by simp; omega
    have hmm : m < d.toList.length := by simpa using hm
    rw [Array.toList_setIfInBounds, take_set hkk, take_snoc_get _ m hmm]
    refine h.sub.append ?_
    rw [getElem!_pos d m hm]
    simp
end
section
variable {α : Type} [Inhabited α] {enc : α → Value} {w0 W : World} {blk off : Nat} {dk : Array α}
theorem SW_set (h : SW enc w0 blk off dk W) (hblk : blk < w0.heap.size) (i : Nat) (hi : i < dk.size) (x : α) : SW enc w0 blk off (dk.setIfInBounds i x) (W.setCell ⟨blk, off + i, none⟩ (enc x)) := by
  obtain ⟨n, os, rfl⟩ := h
  refine ⟨n, os, ?_⟩
  unfold sortWorld
  rw [← putRow_grow enc (Go.Sort.ahead w0 n) os blk off dk hblk, Go.Sort.putRow_set enc _ blk off dk i x hi, putRow_grow enc (Go.Sort.ahead w0 n) os blk off _ hblk]
theorem SW_clear (h : SW enc w0 blk off dk W) (hblk : blk < w0.heap.size) (k : Nat) (xs : List α) (hk : k + xs.length ≤ dk.size) : ∃ dk' : Array α, dk'.size = dk.size ∧ dk'.toList.take k = dk.toList.take k ∧ SW enc w0 blk off dk' (W.setCells blk (off + k) (xs.map enc)) := by
  obtain ⟨m, os, rfl⟩ := h
  have hs : (Go.Lib.lay dk k xs).size = dk.size := by
    have : ∀ (xs : List α) (d : Array α) (k : Nat), (Go.Lib.lay d k xs).size = d.size := by
      intro xs
      induction xs with
      | nil => intro d k; rfl
      | cons x r ih => intro d k; rw [Go.Lib.lay, ih]; simp
    exact this _ _ _
  refine ⟨Go.Lib.lay dk k xs, hs, ?_, m, os, ?_⟩
  · apply List.ext_getElem?
    intro j
    by_cases hj : j < k
    · rw [List.getElem?_take_of_lt hj, List.getElem?_take_of_lt hj, Array.getElem?_toList, Go.Lib.lay_get? _ _ _ _ hk, if_neg (by omega), Array.getElem?_toList]
    · rw [List.getElem?_eq_none (by simp; omega), List.getElem?_eq_none (by simp; omega)]
  · unfold sortWorld
    rw [← putRow_grow enc (Go.Sort.ahead w0 m) os blk off dk hblk, Go.Lib.putRow_setCells enc _ blk off _ dk k hk, putRow_grow enc (Go.Sort.ahead w0 m) os blk off _ hblk]
end
theorem quietAt {P : Program} {f : FuncId} {args : Array Value} {w : World} {q a : Nat} {v : Value} (h : Calls P f args (w.drewN (q + a)) fun e w' => e = .returned v ∧ ∃ n, w' = (w.drewN (q + a)).drewN n) : Calls P f args (w.drewN (q + a)) fun e w' => e = .returned v ∧ ∃ n, w' = w.drewN (q + n) :=
  h.mono fun _ _ ⟨he, m, hm⟩ => ⟨he, a + m, by rw [hm, World.drewN_drewN, Nat.add_assoc]⟩
instance instDecC : DecidableEq S59 := fun a b => if h : a.f0 = b.f0 ∧ a.f1 = b.f1 then .isTrue (by obtain ⟨a0, a1⟩ := a; obtain ⟨b0, b1⟩ := b; simp_all) else .isFalse (fun e => h (by rw [e]; exact ⟨rfl, rfl⟩))
open Go.Sort
theorem equalF_rounds (a b : List S59) (hl : a.length = b.length) (hs : a.length ≤ 9223372036854775807) : ∀ (suf pre : List S59), a = pre ++ suf → ∀ k, suf.length < k → impl_Cell_116.l0 k a b (a.length : Int) (pre.length : Int) = some (decide (suf = b.drop pre.length)) := by
  intro suf
  induction suf with
  | nil =>
    intro pre hx k hk
    obtain ⟨k, rfl⟩ : ∃ m, k = m + 1 := ⟨k - 1, by omega⟩
    rw [List.append_nil] at hx
    subst hx
    simp only [impl_Cell_116.l0]
    rw [if_neg (by omega), List.drop_of_length_le (by omega)]
    rfl
  | cons c suf ih =>
    intro pre hx k hk
    obtain ⟨k, rfl⟩ : ∃ m, k = m + 1 := ⟨k - 1, by omega⟩
    have hla : a.length = pre.length + (suf.length + 1) := by rw [hx]; simp
    have hpb : pre.length < b.length := by omega
    have ea : rd_T59 a (pre.length : Int) = c := by
      unfold rd_T59
      rw [hx]
      simp [List.getD]
    have eb : rd_T59 b (pre.length : Int) = b[pre.length] := by
      unfold rd_T59
      rw [List.getD_eq_getElem?_getD, Int.toNat_natCast, List.getElem?_eq_getElem hpb]
      rfl
    have ew : wrap64 ((pre.length : Int) + 1) = ((pre ++ [c]).length : Int) := by
      rw [List.length_append, List.length_singleton]
      simp only [wrap64]
      omega
    have hi := ih (pre ++ [c]) (by rw [hx]; simp) k (by simp at hk; omega)
    rw [List.length_append, List.length_singleton] at hi ew
    simp only [impl_Cell_116.l0]
    rw [if_pos (by omega), if_pos (by omega), if_pos (by omega), if_pos (by omega), ea, eb, ew, hi, List.drop_eq_getElem_cons hpb]
    generalize b[pre.length] = e
    generalize b.drop (pre.length + 1) = t
    split
    · rename_i h
      have hne : c ≠ e := by
        rintro rfl
        simp at h
      simp [hne]
    · rename_i h
      have heq : c = e := by
        cases c
        cases e
        simp_all
      subst heq
      simp
theorem equal_rounds (a b : List S59) (hs : a.length ≤ 9223372036854775807) : ∃ k, impl_equalShapes.f k a b = some (decide (a = b)) := by
  refine ⟨a.length + 1, ?_⟩
  unfold impl_equalShapes.f impl_Cell_116.f
  by_cases hl : a.length = b.length
  · rw [if_pos (by omega)]
    have := equalF_rounds a b hl hs a [] rfl (a.length + 1) (by omega)
    simp only [List.length_nil, Int.natCast_zero, List.drop_zero] at this
    rw [this]
    rfl
  · rw [if_neg (by omega)]
    have : a ≠ b := fun e => hl (by rw [e])
    simp [this]
set_option maxHeartbeats 4000000 in
set_option maxRecDepth 1000000 in
theorem impl_Cell_141__impl_equalShapes.rawE {W0 w : World} {ok : Nat → Prop} {base b cap : Nat} (d : Array (El W0 ok)) (hA : At w base b cap d) (hS : Same W0 w ok) (hg : ¬ ok b) (h0 : 0 < d.size) (hsz : d.size < 4611686018427387904)
    (heq : ∀ (W : World) (dk : Array (El W0 ok)), SW El.v w b 0 dk W → ∀ x y : El W0 ok, Calls Try.prog 142 #[x.v, y.v] W fun e w' => e = .returned (.bool (decide (x.l = y.l))) ∧ ∃ n, w' = W.drewN n) :
    Calls Try.prog 141 #[.slice (some ⟨b, 0, none⟩) d.size cap, .func (.func 142) #[] #[]] w fun e w' => ∃ (q : Nat) (dk : Array (El W0 ok)) (n : Nat) (os : Array Obj), e = .returned (.slice (some ⟨b, 0, none⟩) q cap) ∧ q ≤ dk.size ∧ dk.size = d.size ∧ (dk.toList.take q).map El.l = compF (d.toList.map El.l) ∧ (dk.toList.take q).Sublist d.toList ∧ w' = sortWorld El.v w b 0 n dk os := by
  have hlt := hA.lt
  have hH := hA.holds
  have hcap := hA.size
  have hcm := hA.max
  have hm : cap ≤ 9223372036854775807 := by unfold maxLen at hcm; omega
  have hO : OneCell (El.v (W0 := W0) (ok := ok)) := El.one
  have hcl0 := hO.cells
  simp only [Value.cells] at hcl0
  have hst := hO.store Try.prog
  have HE := aM heq
  have HH := aM hH
  have HL := aM hlt
  have hkey : (d.toList.map El.l).length = d.size := by simp
  have HK := aM hkey
  clear heq hH hlt hS hA hcm hkey hg
  by_cases h2 : d.size < 2
  · go_enter Try.func141, Try.ntmps141
    go_wp2
    go_ret
    have h1 := AllKeep.one (key := El.l) (d := d) (by omega)
    have e : d.size = 1 := by omega
    refine ⟨d.size, d, 0, #[], rfl, Nat.le_refl _, rfl, ?_, by rw [List.take_of_length_le (by simp)]; exact List.Sublist.refl _, (sortWorld_start El.v w b 0 d HH.out).symm⟩
    have := h1.2
    rw [List.take_of_length_le (by rw [HK.out]; omega)] at this
    rw [List.take_of_length_le (by simp), this]
  · go_enter Try.func141, Try.ntmps141
    go_wp2
    go_loopg [5] d.size (fun gh s5 wr => ∃ k q : Nat, 1 ≤ k ∧ k ≤ d.size ∧ d.size - k ≤ gh ∧ s5 = .int .i64 k ∧ wr = w.drewN q ∧ AllKeep El.l d k)
    case atStart => exact ⟨1, 0, Nat.le_refl _, by omega, by omega, rfl, rfl, AllKeep.one (by omega)⟩
    case round =>
      obtain ⟨k, q, hk1, hk, hgh, rfl, rfl, hall⟩ := hrel
      by_cases hlt : k < d.size
      · obtain ⟨c1, f1⟩ := HH.out k hlt
        obtain ⟨c0, f0⟩ := HH.out (k - 1) (by omega)
        rw [Nat.zero_add] at c1 c0 f1 f0
        have A := aM hall
        clear hall
        generalize hx : d[k]! = x at c1
        generalize hy : d[k - 1]! = y at c0
        have B : Aside0 (d[k]! = x ∧ d[k - 1]! = y) := ⟨⟨hx, hy⟩⟩
        clear hx hy
        by_cases hdup : x.l = y.l
        · have HD := aM hdup
          have i1 : IntKind.i64.wrap ((k : Int) - 1) = (k : Int) - 1 := IntWalk.i64_in _ (by omega)
          have i2 : (1 : Int) ≤ (k : Int) := by omega
          have i3 : ((k : Int) - 1).toNat = k - 1 := by omega
          have i4 : (k : Int) - 1 < (d.size : Int) := by omega
          have i5 : (0 : Int) ≤ (k : Int) - 1 := by omega
          go_wp2_with fail
          go_quiet ((exact quietAt (v := .bool true) ((HE.out _ d ((SW.start HH.out).drewN (q + _)) x y).mono fun _ _ hh => ⟨by rw [hh.1, decide_eq_true HD.out], hh.2⟩)))
          go_wp2
          clear c0 c1 f0 f1 i1 i2 i3 i4 i5
          go_loopg [5, 7] d.size (fun gh s5 s7 wr => ∃ (kk k2 : Nat) (dk : Array (El W0 ok)), s5 = .int .i64 kk ∧ s7 = .int .i64 k2 ∧ 1 ≤ k2 ∧ k + k2 ≤ d.size ∧ d.size - (k + k2) ≤ gh ∧ Aside0 (SW El.v w b 0 dk wr) ∧ Aside0 (CompIv El.l d (k + k2) kk dk))
          case atStart => exact ⟨k, 1, d, rfl, rfl, Nat.le_refl _, by omega, by omega, ⟨(SW.start HH.out).drewN _⟩, ⟨CompIv.start A.out (by omega) hlt (by rw [B.out.1, B.out.2]; exact HD.out)⟩⟩
          case round =>
            obtain ⟨kk, k2, dk, rfl, rfl, h1, hle, hg2, W2, I2⟩ := hrel
            have hkk := I2.out.lt
            have hds := I2.out.size
            have hHk : Holds El.v wr b 0 dk := W2.out.holds HL.out HH.out hds
            by_cases hlt2 : k + k2 < d.size
            · obtain ⟨cm, _⟩ := hHk (k + k2) (by omega)
              obtain ⟨cp, _⟩ := hHk (k + k2 - 1) (by omega)
              obtain ⟨ck, fk⟩ := hHk kk (by omega)
              rw [I2.out.high (k + k2) (by omega), Nat.zero_add] at cm
              rw [I2.out.high (k + k2 - 1) (by omega), Nat.zero_add, show k + k2 - 1 = k + (k2 - 1) by omega] at cp
              rw [Nat.zero_add] at ck fk
              clear hHk
              generalize hu : d[k + k2]! = u at cm
              generalize hv : d[k + (k2 - 1)]! = v at cp
              generalize dk[kk]! = old at ck
              have hv' : d[k + k2 - 1]! = v := by rw [show k + k2 - 1 = k + (k2 - 1) by omega]; exact hv
              have C : Aside0 (d[k + k2]! = u ∧ d[k + k2 - 1]! = v) := ⟨⟨hu, hv'⟩⟩
              clear hu hv hv'
              have i1 : IntKind.i64.wrap ((k2 : Int) - 1) = (k2 : Int) - 1 := IntWalk.i64_in _ (by omega)
              have i2 : (1 : Int) ≤ (k2 : Int) := by omega
              have i3 : ((k2 : Int) - 1).toNat = k2 - 1 := by omega
              have i4 : (k2 : Int) - 1 < ((d.size - k : Nat) : Int) := by omega
              have i5 : (0 : Int) ≤ (k2 : Int) - 1 := by omega
              have i6 : (k2 : Int) < ((d.size - k : Nat) : Int) := by omega
              by_cases huv : u.l = v.l
              · have HU := aM huv
                clear huv
                go_wp2_with fail
                go_quiet ((exact Calls.quiet_of (v := .bool true) ((HE.out _ dk (W2.out.drewN _) u v).mono fun _ _ hh => ⟨by rw [hh.1, decide_eq_true HU.out], hh.2⟩)))
                go_wp2
                go_roundg (d.size - (k + (k2 + 1)))
                case measure => omega
                case rel => exact ⟨kk, k2 + 1, dk, rfl, by go_num, by omega, by omega, Nat.le_refl _, ⟨W2.out.drewN _⟩, ⟨I2.out.skip hlt2 (by rw [C.out.1, C.out.2]; exact HU.out)⟩⟩
              · have HU := aM huv
                clear huv
                go_wp2_with fail
                go_quiet ((exact Calls.quiet_of (v := .bool false) ((HE.out _ dk (W2.out.drewN _) u v).mono fun _ _ hh => ⟨by rw [hh.1, decide_eq_false HU.out], hh.2⟩)))
                go_wp2
                go_roundg (d.size - (k + (k2 + 1)))
                case measure => omega
                case rel => exact ⟨kk + 1, k2 + 1, dk.setIfInBounds kk u, by go_num, by go_num, by omega, by omega, Nat.le_refl _, ⟨by have := SW_set (W2.out.drewN nq) HL.out kk (by omega) u; rwa [Nat.zero_add] at this⟩, ⟨by have := I2.out.keep hlt2 (by rw [C.out.1, C.out.2]; exact HU.out); rwa [C.out.1] at this⟩⟩
            · have hend : k + k2 = d.size := by omega
              have hcl : ∀ ty, (Builtin.clear_ #[61] ty #[.slice (some ⟨b, kk, none⟩) (d.size - kk) (cap - kk)]).run Try.prog wr = .ok (.tuple #[]) (wr.setCells b kk (List.replicate (d.size - kk) (default : El W0 ok).v)) :=
                fun ty => Lib.run_clear_slice wr _ _ ty _ Try.underlying61 Try.zeroValue24 rfl rfl b kk _ _ (by omega) (fun j hj => by have := (hHk (kk + j) (by omega)).1; rw [Nat.zero_add] at this; rw [this]; rfl) (fun j hj => by have := (hHk (kk + j) (by omega)).2; rw [Nat.zero_add] at this; exact this)
              clear hHk
              have i1 : ¬ (k2 : Int) < ((d.size - k : Nat) : Int) := by omega
              have i2 : kk < cap := by omega
              go_wp2
              go_ret
              obtain ⟨dk', hs', ht', n', os', hw'⟩ := SW_clear W2.out HL.out kk (List.replicate (d.size - kk) default) (by rw [List.length_replicate]; omega)
              rw [Nat.zero_add, List.map_replicate] at hw'
              have hI := I2.out
              rw [hend] at hI
              refine ⟨kk, rfl, dk', by omega, by omega, ?_, ?_, n', os', hw'⟩
              · (try rw [← List.map_take]); rw [ht', hI.low, List.take_of_length_le (by simp)]
              · rw [ht']; have := hI.sub; rwa [List.take_of_length_le (l := d.toList) (by simp)] at this
        · have HD := aM hdup
          clear hdup
          have i1 : IntKind.i64.wrap ((k : Int) - 1) = (k : Int) - 1 := IntWalk.i64_in _ (by omega)
          have i2 : (1 : Int) ≤ (k : Int) := by omega
          have i3 : ((k : Int) - 1).toNat = k - 1 := by omega
          have i4 : (k : Int) - 1 < (d.size : Int) := by omega
          have i5 : (0 : Int) ≤ (k : Int) - 1 := by omega
          go_wp2_with fail
          go_quiet ((exact quietAt (v := .bool false) ((HE.out _ d ((SW.start HH.out).drewN (q + _)) x y).mono fun _ _ hh => ⟨by rw [hh.1, decide_eq_false HD.out], hh.2⟩)))
          go_wp2
          go_roundg (d.size - (k + 1))
          case measure => omega
          case rel => exact ⟨k + 1, q + nq, by omega, by omega, Nat.le_refl _, by go_num, rfl, A.out.step (by omega) hlt (by rw [B.out.1, B.out.2]; exact HD.out)⟩
      · obtain rfl : k = d.size := by omega
        have A := aM hall
        clear hall
        go_wp2
        go_ret
        obtain ⟨n', os', hw'⟩ := (SW.start HH.out).drewN q
        refine ⟨d.size, d, n', os', rfl, Nat.le_refl _, rfl, ?_, by rw [List.take_of_length_le (by simp)]; exact List.Sublist.refl _, hw'⟩
        have := A.out.2
        rw [List.take_of_length_le (by rw [HK.out]; omega)] at this
        rw [List.take_of_length_le (by simp), this]
theorem impl_Cell_141__impl_equalShapes.raw {W0 w : World} {ok : Nat → Prop} {base b cap : Nat} (d : Array (El W0 ok)) (hA : At w base b cap d) (hS : Same W0 w ok) (hg : ¬ ok b) (h0 : 0 < d.size) (hsz : d.size < 4611686018427387904) :
    Calls Try.prog 141 #[.slice (some ⟨b, 0, none⟩) d.size cap, .func (.func 142) #[] #[]] w fun e w' => ∃ (q : Nat) (dk : Array (El W0 ok)) (n : Nat) (os : Array Obj), e = .returned (.slice (some ⟨b, 0, none⟩) q cap) ∧ q ≤ dk.size ∧ dk.size = d.size ∧ (dk.toList.take q).map El.l = compF (d.toList.map El.l) ∧ (dk.toList.take q).Sublist d.toList ∧ w' = sortWorld El.v w b 0 n dk os :=
  impl_Cell_141__impl_equalShapes.rawE d hA hS hg h0 hsz fun W dk hW x y => by
    obtain ⟨n, os, rfl⟩ := hW
    have hgw := sortW1_grown El.v w b n dk os
    obtain ⟨A0, c0, e0, hc0, hC0⟩ := x.now (hS.grown hgw hg)
    obtain ⟨A1, c1, e1, hc1, hC1⟩ := y.now (hS.grown hgw hg)
    obtain ⟨k, hk⟩ := equal_rounds x.l y.l hC0.2.1
    rw [e0, e1]
    exact (impl_equalShapes.calls k A0 c0 x.l A1 c1 y.l _ _ hC0 hc0 hC1 hc1 hk).mono fun _ _ hh => ⟨hh.1, hh.2.out⟩
open Go.Sort
def impl_tidyShapes.f (l0 : List (List S59)) : Option (List (List S59)) := if 0 < l0.length ∧ l0.length < 4611686018427387904 then some (compF (sortS l0)) else none
theorem szs_eq {w : World} {ok : Nat → Prop} {d d1 : Array (El w ok)} (h : d1.toList.Perm d.toList) : d.size = d1.size := by
  have := h.length_eq
  rw [Array.length_toList, Array.length_toList] at this
  exact this.symm
set_option maxHeartbeats 4000000 in
theorem impl_tidyShapes.raw {w : World} {ok : Nat → Prop} {base g cap : Nat} (d : Array (El w ok)) (hA : At w base g cap d) (hg : ¬ ok g) (h0 : 0 < d.size) (hsz : d.size < 4611686018427387904) :
    Calls Try.prog 124 #[.slice (some ⟨g, 0, none⟩) d.size cap] w fun e w' => ∃ dk : Array (El w ok), e = .returned (.slice (some ⟨g, 0, none⟩) dk.size cap) ∧ At w' base g cap dk ∧ Same w w' ok ∧ dk.toList.map El.l = compF (sortS (d.toList.map El.l)) ∧ ((∀ x ∈ dk.toList, x ∈ d.toList) ∧ ((d.toList.map El.j).Nodup → (dk.toList.map El.j).Nodup)) ∧ w.grownBy w' (some g) := by
  have HA := aM hA
  have HG := aM hg
  have H0 := aM h0
  have HZ := aM hsz
  clear hA hg h0 hsz
  go_enter Try.func124, Try.ntmps124
  go_wp2_with (first
    | (go_at_call 139; refine (impl_Cell_139__impl_compareShapes.raw d HA.out (Same.refl _ _) HG.out HZ.out).mono ?_; rintro e w1 ⟨rfl, d1, n1, os1, hp, hr, hw⟩; have HP := aM hp; have HR := aM hr; have HW := aM hw; have HS := aM (szs_eq hp); clear hp hr hw)
    | (go_at_call 141; have hC := impl_Cell_141__impl_equalShapes.raw (w := w1) (base := base) (cap := cap) d1 (by rw [HW.out]; exact HA.out.sorted HS.out.symm) (by rw [HW.out]; exact (Same.refl _ _).grown (sortW1_grown _ _ _ _ _ _) HG.out) HG.out (by rw [← HS.out]; exact H0.out) (by rw [← HS.out]; exact HZ.out); rw [← HS.out] at hC; refine hC.mono ?_; clear hC; rintro e w2 ⟨q, dk, n2, os2, rfl, hq, hs2, hl, hsub, hw2⟩; have H2 := aM (And.intro hq (And.intro hs2 (And.intro hl (And.intro hsub hw2)))); clear hq hs2 hl hsub hw2))
  go_ret
  obtain ⟨hq, hs2, hl, hsub, hw2⟩ := H2.out
  have g1 := sortW1_grown El.v w g n1 d1 os1
  rw [← HW.out] at g1
  have g2 := sortW1_grown El.v w1 g n2 dk os2
  rw [← hw2] at g2
  have hs1 := HS.out
  have A1 : At w1 base g cap d1 := by rw [HW.out]; exact HA.out.sorted hs1.symm
  have A2 : At w2 base g cap dk := by rw [hw2]; exact A1.sorted (hs2.trans hs1)
  have hz : (dk.toList.take q).toArray.size = q := by simp; omega
  refine ⟨(dk.toList.take q).toArray, by rw [hz]; rfl, A2.cut q hq, ((Same.refl _ _).grown g1 HG.out).grown g2 HG.out, by rw [← HR.out]; exact hl, ⟨fun x hx => HP.out.mem_iff.1 (hsub.mem hx), fun hn => ?_⟩, g1.trans g2⟩
  exact ((hsub.map El.j).nodup (((HP.out.map El.j).nodup_iff).2 hn))
theorem impl_tidyShapes.calls (P0_ : Nat → Prop) (u9000_ : Value) (l0 : List (List S59)) (r : List (List S59)) (w0 w : World) (hB : Below w0.heap.size w0 w) (ho0 : Kd.S (Kd.slice 59 k59) 24 w w0.heap.size P0_ u9000_ l0) (h : impl_tidyShapes.f l0 = some r) :
    Calls Try.prog 124 #[u9000_] w fun e w' => ∃ v0_ : Value, e = .returned (v0_) ∧ Kd.S (Kd.slice 59 k59) 24 w' w0.heap.size (fun k_ => (P0_ k_ ∨ w.heap.size ≤ k_)) v0_ r ∧ Below w0.heap.size w0 w' ∧ Kept w w' (fun k_ => some k_ = u9000_.ownBlock) := by
  unfold impl_tidyShapes.f at h
  by_cases hl : 0 < l0.length ∧ l0.length < 4611686018427387904
  · rw [if_pos hl] at h
    obtain rfl := Option.some.inj h
    obtain ⟨g, cap, rfl, _⟩ := Kd.S_form ho0 hl.1
    obtain ⟨hok, hn, f, d, hd, hA, hj, hM⟩ := S_open ho0
    have hdn : d.size = l0.length := by rw [← hd]; simp
    have hcon := impl_tidyShapes.raw d hA (fun h_ => h_.2 rfl) (by omega) (by omega)
    rw [hdn] at hcon
    refine hcon.mono ?_
    rintro e w' ⟨dk, rfl, hA2, hS2, hl2, ⟨hmem, hnod⟩, hgw⟩
    rw [hd] at hl2
    refine ⟨_, rfl, ?_, pw_below_grown hB (some g) hB.size hgw (fun k hk => by injection hk with hk; exact hk ▸ hA.base), ?_⟩
    · have h2 := S_close hok hA2 hS2 (hnod (by rw [hj]; exact List.nodup_range)) (fun x hx => hM x (hmem x hx))
      rw [hl2] at h2
      exact Kd.S_mono h2 (fun _ hk => .inl hk)
    · refine ⟨hgw.size, fun i hi hn => hgw.block i hi ?_⟩
      intro e
      injection e with e
      exact hn (e ▸ rfl)
  · rw [if_neg hl] at h
    exact absurd h (by simp)
def impl_forms.l0 : Nat → List (S59) → List (List (S59)) → Int → Int → Option ((List (List (S59))))
 | 0, _, _, _, _ => none
 | k + 1, x0, x5, x8, x9 => if x9 < x8 then ((impl_form.f k x0 x9).bind fun t831 => (if x5.length < 5864062014805 then (impl_forms.l0 k x0 (x5 ++ [t831]) x8 (wrap64 (x9 + 1))) else (none))) else (some x5)
def impl_forms.f (k : Nat) (l0 : List (S59)) (a1 : Int) : Option ((List (List (S59)))) := impl_forms.l0 k l0 (([] : List (List (S59)))) a1 0
theorem impl_forms.calls (k : Nat) (A0 : Option Addr) (c0 : Nat) (l0 : List (S59)) (a1 : Int) (r : List (List (S59))) (w : World) (hr0 : Kd.C k59 w A0 l0.length l0) (hc0 : l0.length ≤ c0) (h : impl_forms.f k l0 a1 = some r) :
  Calls Try.prog 125 #[.slice A0 l0.length c0, .int .i64 a1] w fun e w' => ∃ v0_ : Value, e = .returned (v0_) ∧ Kd.S (Kd.slice 59 k59) 24 w' w.heap.size (fun _ => True) v0_ r ∧ Below w.heap.size w w' := by
 have HR0 := aM hr0
 have HC0 := aM hc0
 clear hr0 hc0
 have HB := aM (Below.refl w.heap.size w)
 have H : (impl_forms.l0 k l0 (([] : List (List (S59)))) a1 0) = some r := h
 clear h
 obtain ⟨y828, hy828⟩ : ∃ y_ : List (List (S59)), y_ = (([] : List (List (S59)))) := ⟨_, rfl⟩
 replace H : (impl_forms.l0 k l0 y828 a1 0) = some r := zy H hy828
 have Ny828 := aM hy828
 clear hy828
 have H' := aM H
 clear H
 go_enter Try.func125, Try.ntmps125
 go_wp2_with (first | ((with_reducible refine gate_dst (N := 7) rfl ?_); refine Kd.S_lit (Kd.slice 59 k59) _ 24 ?hg (N := 7) ?hd (xs := ([] : List (List (S59)))) (inner := []) (ok := fun _ => True) (okp := fun _ => True) ?hr ?hp (fun _ hk => hk) trivial (Below.refl _ _) (Nat.le_refl _) (by simp) ?_; (case hd => rfl); (case hg => rfl); (case hr => first | (go_simp; done) | (go_simp; rfl)); (case hp => exact (Reps.none _ _)); intro v829 w3 ho4 hb hg_ hnew_; clear hg_ hnew_; (first | rw [← Ny828.out] at ho4 | (simp only [Int.reduceToNat] at ho4; rw [← Ny828.out] at ho4)); have n0_ := aM (Kd.S_lower ho4 (below_size zb)); have n1_ := aM (below_step zb hb); clear HB; have HO830 := n0_; have HB := n1_; clear n0_ n1_; clear hb ho4))
 go_loopg [5, 9] k (fun kq v5 v9 w' => ∃ (x5_1 : List (List (S59))) (x9_1 : Int), v9 = .int .i64 x9_1 ∧ Aside0 (impl_forms.l0 kq l0 x5_1 a1 x9_1 = some r) ∧ Aside0 (kq ≤ k) ∧ Aside0 (Kd.S (Kd.slice 59 k59) 24 w' w.heap.size (fun _ => True) v5 x5_1) ∧ Aside0 (Below w.heap.size w w'))
 case atStart => exact ⟨(y828), (0), zr, H', ⟨Nat.le_refl _⟩, ⟨mS_ HO830.out⟩, ⟨zb⟩⟩
 case round =>
  clear H'
  try clear c1
  try clear p2
  obtain ⟨x5_1, x9_1, rfl, HA, HK1, HO_5, HB⟩ := hrel
  cases gk with
  | zero => exact absurd HA.out (by simp [impl_forms.l0])
  | succ k1 =>
   have H := HA.out
   clear HA
   simp only [impl_forms.l0] at H
   by_cases c5 : x9_1 < a1
   rotate_left
   ·rw [if_neg c5] at H
    have c5b0 : decide (x9_1 < a1) = false := decide_eq_false c5
    clear c5
    obtain rfl := Option.some.inj H
    go_wp2
    go_ret
    exact ⟨_, zw, mS_ HO_5.out, zb⟩
   rw [if_pos c5] at H
   have c5b0 : decide (x9_1 < a1) = true := decide_eq_true c5
   clear c5
   replace H := Option.bind_eq_some_iff.mp H
   obtain ⟨t831, A60, H⟩ := H
   replace H : (if x5_1.length < 5864062014805 then (impl_forms.l0 k1 l0 (x5_1 ++ [t831]) a1 (wrap64 (x9_1 + 1))) else (none)) = some r := H
   have A6 := aM A60
   clear A60
   by_cases c7 : x5_1.length < 5864062014805
   rotate_left
   ·rw [if_neg c7] at H
    exact absurd H (by simp)
   rw [if_pos c7] at H
   have LMc7 := aM c7
   clear c7
   obtain ⟨y834, hy834⟩ : ∃ y_ : List (List (S59)), y_ = (x5_1 ++ [t831]) := ⟨_, rfl⟩
   replace H : (impl_forms.l0 k1 l0 y834 a1 (wrap64 (x9_1 + 1))) = some r := zy H hy834
   have Ny834 := aM hy834
   clear hy834
   have H' := aM H
   clear H
   go_wp2_with (first | ((with_reducible refine gate_callee (f := 69) rfl ?_); refine goesL_ (some 15) rfl rfl Try.func69 (by kernel_rfl) rfl #[.slice A0 l0.length c0, .int .i64 x9_1] rfl zm ?_; (with_reducible refine (impl_form.calls k1 _ _ l0 x9_1 t831 _ ?side1 ?side2 A6.out).mono ?_); (case side1 => repeat (first | exact (Kd.C_below HR0.out HB.out) | (with_reducible refine Kd.C_alloc ?_ _) | (with_reducible refine Kd.C_drewN ?_ _) | (with_reducible refine Kd.C_drew ?_))); (case side2 => exact HC0.out); rintro e w8 ⟨v832, rfl, ho0, hb⟩; refine ⟨_, rfl, ?_⟩; have n0_ := aM (Kd.S_elder' (mS_ HO_5.out) (Kd.R_base ho0) hb); have n1_ := aM (Kd.R_lower ho0 (below_size zb)); have n2_ := aM (below_step zb hb); clear HO_5 HB; have HO_5 := n0_; have HO833 := n1_; have HB := n2_; clear n0_ n1_ n2_; (try clear hb); (try clear hb2); (try clear hk); (try clear hi); (try clear ho0); obtain ⟨Ao10, co10, eo10⟩ := Kd.R_slice HO833.out; subst eo10) | ((with_reducible refine gate_builtin (b := .append) (xs := #[.tmp 12, .tmp 16]) rfl ?_); at_builtin; refine Kd.S_append (Kd.slice 59 k59) (w0 := w) w.heap.size rfl (.tmp 12) (.tmp 16) 61 24 (.slice none 0 0) 24 rfl Try.underlying61 info24 rfl (by decide) (by omega) u5 x5_1 t831 [.slice Ao10 t831.length co10] (fun _ => True) (fun k_ => some k_ = (.slice Ao10 t831.length co10 : Value).ownBlock) rfl rfl ?aP (fun k_ hk_ => ((Kd.R_mono (ok' := fun k_ => ((fun _ => True)) k_ ∧ some k_ ≠ (u5 : Value).ownBlock) (Kd.R_apart' (HO833.out) (Kd.S_typed HO_5.out) (by decide)) (fun k_ hk => ⟨trivial, hk.2⟩))).1 k_ hk_.symm) ?aF ?aO ?aB ?aS ?aL ?_; (case aP => exact Kd.M_row (Kd.R_mono (Kd.R_tight rfl (Kd.R_mono (ok' := fun k_ => ((fun _ => True)) k_ ∧ some k_ ≠ (u5 : Value).ownBlock) (Kd.R_apart' (HO833.out) (Kd.S_typed HO_5.out) (by decide)) (fun k_ hk => ⟨trivial, hk.2⟩))) (fun _ h_ => h_))); (case aB => exact zb); (case aF => exact (fun _ _ => trivial)); (case aO => exact (by (with_reducible repeat (first | apply Kd.S_alloc | apply Kd.S_drewN | apply Kd.S_drew)); exact Kd.S_mono HO_5.out (fun k_ hk => ⟨trivial, fun e_ => hk.2 e_⟩))); (case aS => exact (below_size zb)); (case aL => have := LMc7.out; omega); intro v835 w9 ho hb hg hat; rw [← Ny834.out] at ho; have n0_ := aM (hb); have n1_ := aM (ho); clear HB HO_5 HO833; have HB := n0_; have HO836 := n1_; clear n0_ n1_; clear ho hb hg hat))
   go_roundg k1
   case measure => have := HK1.out; omega
   case rel => exact ⟨(y834), (wrap64 (x9_1 + 1)), zr, H', ⟨by have := HK1.out; omega⟩, ⟨mS_ HO836.out⟩, ⟨zb⟩⟩
def impl_formsOf.f (k : Nat) (l0_0 : List (S59)) (a0_1 : Int) (a0_2 : Bool) : Option ((List (List (S59)))) := if a0_2 = true then ((impl_forms.f k l0_0 8).bind fun t838 => ((impl_tidyShapes.f t838).bind fun t841 => (some t841))) else ((impl_forms.f k l0_0 4).bind fun t844 => ((impl_tidyShapes.f t844).bind fun t847 => (some t847)))
theorem impl_formsOf.calls (k : Nat) (A0_0 : Option Addr) (c0_0 : Nat) (l0_0 : List (S59)) (a0_1 : Int) (a0_2 : Bool) (r : List (List (S59))) (w : World) (hr0_0 : Kd.C k59 w A0_0 l0_0.length l0_0) (hc0_0 : l0_0.length ≤ c0_0) (h : impl_formsOf.f k l0_0 a0_1 a0_2 = some r) :
  Calls Try.prog 90 #[.agg #[.slice A0_0 l0_0.length c0_0, .int .i64 a0_1, .bool a0_2]] w fun e w' => ∃ v0_ : Value, e = .returned (v0_) ∧ Kd.S (Kd.slice 59 k59) 24 w' w.heap.size (fun _ => True) v0_ r ∧ Below w.heap.size w w' := by
 have hu51 := Try.underlying51
 have HR0_0 := aM hr0_0
 have HC0_0 := aM hc0_0
 clear hr0_0 hc0_0
 have HB := aM (Below.refl w.heap.size w)
 have H : (if a0_2 = true then ((impl_forms.f k l0_0 8).bind fun t838 => ((impl_tidyShapes.f t838).bind fun t841 => (some t841))) else ((impl_forms.f k l0_0 4).bind fun t844 => ((impl_tidyShapes.f t844).bind fun t847 => (some t847)))) = some r := h
 clear h
 by_cases c2 : a0_2 = true
 ·subst c2
  have H1 : ((impl_forms.f k l0_0 8).bind fun t838 => ((impl_tidyShapes.f t838).bind fun t841 => (some t841))) = some r := by rw [if_pos rfl] at H; exact H
  clear H
  have H := H1
  clear H1
  replace H := Option.bind_eq_some_iff.mp H
  obtain ⟨t838, A30, H⟩ := H
  replace H : ((impl_tidyShapes.f t838).bind fun t841 => (some t841)) = some r := H
  have A3 := aM A30
  clear A30
  replace H := Option.bind_eq_some_iff.mp H
  obtain ⟨t841, A40, H⟩ := H
  replace H : (some t841) = some r := H
  have A4 := aM A40
  clear A40
  obtain rfl := Option.some.inj H
  go_enter Try.func90, Try.ntmps90
  go_wp2_with (first | ((with_reducible refine gate_dst (N := 1) rfl ?_); refine zx 1 #[.slice A0_0 l0_0.length c0_0, .int .i64 a0_1, .bool true] 51 ?_; intro gb837 hg w5 hbox hb; have n0_ := aM (below_step zb hb); have n1_ := aM (hbox); have n2_ := aM ((ze : w.heap.size ≤ gb837)); have n3_ := aM ((ze : w.heap.size ≤ gb837)); clear HB; have HB := n0_; have BK837 := n1_; have GW837 := n2_; have GE837 := n3_; clear n0_ n1_ n2_ n3_ hb hbox hg; have hcz6_0 : w5.cell? ⟨gb837, 0, none⟩ = some (.slice A0_0 l0_0.length c0_0) := (blk_cell BK837.out 0).trans rfl; have hcz6_1 : w5.cell? ⟨gb837, 1, none⟩ = some (.int .i64 a0_1) := (blk_cell BK837.out 1).trans rfl; have hcz6_2 : w5.cell? ⟨gb837, 2, none⟩ = some (.bool true) := (blk_cell BK837.out 2).trans rfl; have hfz6_0 := blk_frozen BK837.out 0; have hfz6_1 := blk_frozen BK837.out 1; have hfz6_2 := blk_frozen BK837.out 2) | ((with_reducible refine gate_callee (f := 125) rfl ?_); refine goesL_ (some 9) rfl rfl Try.func125 (by kernel_rfl) rfl #[.slice A0_0 l0_0.length c0_0, .int .i64 8] rfl zm ?_; (with_reducible refine (impl_forms.calls k _ _ l0_0 8 t838 _ ?side1 ?side2 A3.out).mono ?_); (case side1 => repeat (first | exact (Kd.C_below HR0_0.out HB.out) | (with_reducible refine Kd.C_alloc ?_ _) | (with_reducible refine Kd.C_drewN ?_ _) | (with_reducible refine Kd.C_drew ?_))); (case side2 => exact HC0_0.out); rintro e w7 ⟨v839, rfl, ho0, hb⟩; refine ⟨_, rfl, ?_⟩; have n0_ := aM (Kd.S_lower ho0 (below_size (zs GE837.out))); have n1_ := aM (blk_below (g := gb837) (o := .cells #[.slice A0_0 l0_0.length c0_0, .int .i64 a0_1, .bool true] 51 (0, 0)) (mB_ BK837.out) hb); have n2_ := aM (below_step (zs GE837.out) hb); clear BK837 HB; have HO840 := n0_; have BK837 := n1_; have HB := n2_; clear n0_ n1_ n2_; (try clear hb); (try clear hb2); (try clear hk); (try clear hi); (try clear ho0); obtain ⟨Ao8, co8, eo8⟩ := Kd.S_slice HO840.out; subst eo8) | ((with_reducible refine gate_callee (f := 124) rfl ?_); refine goesL_ (some 10) rfl rfl Try.func124 (by kernel_rfl) rfl #[.slice Ao8 t838.length co8] rfl zm ?_; (with_reducible refine (impl_tidyShapes.calls (fun k_ => True) (.slice Ao8 t838.length co8) t838 t841 w _ ?side1 ?side2 A4.out).mono ?_); (case side1 => repeat (first | (with_reducible first | exact HB.out | apply below_alloc | apply pw_below_drewN | apply below_drew1 | refine below_set ?_ GE837.out) | exact HB.out)); (case side2 => exact HO840.out); rintro e w9 ⟨v842, rfl, ho0, hb, hkp⟩; refine ⟨_, rfl, ?_⟩; have n0_ := aM (blk_kept (mB_ BK837.out) hkp (fun hs_ => (fun e_ => (Kd.S_ne HO840.out BK837.out (by decide)) e_) hs_)); have n1_ := aM (Kd.S_mono (ok' := fun k_ => True) ho0 (fun k_ hk_ => trivial)); have n2_ := aM (hb); clear BK837 HB HO840; have BK837 := n0_; have HO843 := n1_; have HB := n2_; clear n0_ n1_ n2_; (try clear hb); (try clear hkp); (try clear ho0)))
  go_ret
  exact ⟨_, zw, mS_ HO843.out, zs GE837.out⟩
 replace c2 := Bool.eq_false_iff.mpr c2
 subst c2
 have H1 : ((impl_forms.f k l0_0 4).bind fun t844 => ((impl_tidyShapes.f t844).bind fun t847 => (some t847))) = some r := by rw [if_neg (show ¬ (false = true) by decide)] at H; exact H
 clear H
 have H := H1
 clear H1
 replace H := Option.bind_eq_some_iff.mp H
 obtain ⟨t844, A100, H⟩ := H
 replace H : ((impl_tidyShapes.f t844).bind fun t847 => (some t847)) = some r := H
 have A10 := aM A100
 clear A100
 replace H := Option.bind_eq_some_iff.mp H
 obtain ⟨t847, A110, H⟩ := H
 replace H : (some t847) = some r := H
 have A11 := aM A110
 clear A110
 obtain rfl := Option.some.inj H
 go_enter Try.func90, Try.ntmps90
 go_wp2_with (first | ((with_reducible refine gate_dst (N := 1) rfl ?_); refine zx 1 #[.slice A0_0 l0_0.length c0_0, .int .i64 a0_1, .bool false] 51 ?_; intro gb837 hg w12 hbox hb; have n0_ := aM (below_step zb hb); have n1_ := aM (hbox); have n2_ := aM ((ze : w.heap.size ≤ gb837)); have n3_ := aM ((ze : w.heap.size ≤ gb837)); clear HB; have HB := n0_; have BK837 := n1_; have GW837 := n2_; have GE837 := n3_; clear n0_ n1_ n2_ n3_ hb hbox hg; have hcz13_0 : w12.cell? ⟨gb837, 0, none⟩ = some (.slice A0_0 l0_0.length c0_0) := (blk_cell BK837.out 0).trans rfl; have hcz13_1 : w12.cell? ⟨gb837, 1, none⟩ = some (.int .i64 a0_1) := (blk_cell BK837.out 1).trans rfl; have hcz13_2 : w12.cell? ⟨gb837, 2, none⟩ = some (.bool false) := (blk_cell BK837.out 2).trans rfl; have hfz13_0 := blk_frozen BK837.out 0; have hfz13_1 := blk_frozen BK837.out 1; have hfz13_2 := blk_frozen BK837.out 2) | ((with_reducible refine gate_callee (f := 125) rfl ?_); refine goesL_ (some 9) rfl rfl Try.func125 (by kernel_rfl) rfl #[.slice A0_0 l0_0.length c0_0, .int .i64 4] rfl zm ?_; (with_reducible refine (impl_forms.calls k _ _ l0_0 4 t844 _ ?side1 ?side2 A10.out).mono ?_); (case side1 => repeat (first | exact (Kd.C_below HR0_0.out HB.out) | (with_reducible refine Kd.C_alloc ?_ _) | (with_reducible refine Kd.C_drewN ?_ _) | (with_reducible refine Kd.C_drew ?_))); (case side2 => exact HC0_0.out); rintro e w14 ⟨v845, rfl, ho0, hb⟩; refine ⟨_, rfl, ?_⟩; have n0_ := aM (Kd.S_lower ho0 (below_size (zs GE837.out))); have n1_ := aM (blk_below (g := gb837) (o := .cells #[.slice A0_0 l0_0.length c0_0, .int .i64 a0_1, .bool false] 51 (0, 0)) (mB_ BK837.out) hb); have n2_ := aM (below_step (zs GE837.out) hb); clear BK837 HB; have HO846 := n0_; have BK837 := n1_; have HB := n2_; clear n0_ n1_ n2_; (try clear hb); (try clear hb2); (try clear hk); (try clear hi); (try clear ho0); obtain ⟨Ao15, co15, eo15⟩ := Kd.S_slice HO846.out; subst eo15) | ((with_reducible refine gate_callee (f := 124) rfl ?_); refine goesL_ (some 10) rfl rfl Try.func124 (by kernel_rfl) rfl #[.slice Ao15 t844.length co15] rfl zm ?_; (with_reducible refine (impl_tidyShapes.calls (fun k_ => True) (.slice Ao15 t844.length co15) t844 t847 w _ ?side1 ?side2 A11.out).mono ?_); (case side1 => repeat (first | (with_reducible first | exact HB.out | apply below_alloc | apply pw_below_drewN | apply below_drew1 | refine below_set ?_ GE837.out) | exact HB.out)); (case side2 => exact HO846.out); rintro e w16 ⟨v848, rfl, ho0, hb, hkp⟩; refine ⟨_, rfl, ?_⟩; have n0_ := aM (blk_kept (mB_ BK837.out) hkp (fun hs_ => (fun e_ => (Kd.S_ne HO846.out BK837.out (by decide)) e_) hs_)); have n1_ := aM (Kd.S_mono (ok' := fun k_ => True) ho0 (fun k_ hk_ => trivial)); have n2_ := aM (hb); clear BK837 HB HO846; have BK837 := n0_; have HO849 := n1_; have HB := n2_; clear n0_ n1_ n2_; (try clear hb); (try clear hkp); (try clear ho0)))
 go_ret
 exact ⟨_, zw, mS_ HO849.out, zs GE837.out⟩
def laws_eqPiece.f (k : Nat) (l0_0 : List (S59)) (a0_1 : Int) (a0_2 : Bool) (l1_0 : List (S59)) (a1_1 : Int) (a1_2 : Bool) : Option (Bool) := (laws_eqCellS.f k l0_0 l1_0).bind fun t857 => (if t857 = true then (if a0_1 = a1_1 then (if (a0_2 != a1_2) = true then (some false) else (some true)) else (some false)) else (some false))
theorem laws_eqPiece.calls (k : Nat) (A0_0 : Option Addr) (c0_0 : Nat) (l0_0 : List (S59)) (a0_1 : Int) (a0_2 : Bool) (A1_0 : Option Addr) (c1_0 : Nat) (l1_0 : List (S59)) (a1_1 : Int) (a1_2 : Bool) (r : Bool) (w : World) (hr0_0 : Kd.C k59 w A0_0 l0_0.length l0_0) (hc0_0 : l0_0.length ≤ c0_0) (hr1_0 : Kd.C k59 w A1_0 l1_0.length l1_0) (hc1_0 : l1_0.length ≤ c1_0) (h : laws_eqPiece.f k l0_0 a0_1 a0_2 l1_0 a1_1 a1_2 = some r) :
  Calls Try.prog 36 #[.agg #[.slice A0_0 l0_0.length c0_0, .int .i64 a0_1, .bool a0_2], .agg #[.slice A1_0 l1_0.length c1_0, .int .i64 a1_1, .bool a1_2]] w fun e w' => e = .returned (.bool r) ∧ Below w.heap.size w w' := by
 have hu51 := Try.underlying51
 have HR0_0 := aM hr0_0
 have HC0_0 := aM hc0_0
 clear hr0_0 hc0_0
 have HR1_0 := aM hr1_0
 have HC1_0 := aM hc1_0
 clear hr1_0 hc1_0
 have HB := aM (Below.refl w.heap.size w)
 have H : ((laws_eqCellS.f k l0_0 l1_0).bind fun t857 => (if t857 = true then (if a0_1 = a1_1 then (if (a0_2 != a1_2) = true then (some false) else (some true)) else (some false)) else (some false))) = some r := h
 clear h
 replace H := Option.bind_eq_some_iff.mp H
 obtain ⟨t857, A30, H⟩ := H
 replace H : (if t857 = true then (if a0_1 = a1_1 then (if (a0_2 != a1_2) = true then (some false) else (some true)) else (some false)) else (some false)) = some r := H
 have A3 := aM A30
 clear A30
 by_cases c4 : t857 = true
 rotate_left
 ·replace c4 := Bool.eq_false_iff.mpr c4
  subst c4
  have H1 : (some false) = some r := by rw [if_neg (show ¬ (false = true) by decide)] at H; exact H
  clear H
  have H := H1
  clear H1
  obtain rfl := Option.some.inj H
  go_enter Try.func36, Try.ntmps36
  go_wp2_with (first | ((with_reducible refine gate_dst (N := 2) rfl ?_); refine zx 2 #[.slice A0_0 l0_0.length c0_0, .int .i64 a0_1, .bool a0_2] 51 ?_; intro gb855 hg w31 hbox hb; have n0_ := aM (below_step zb hb); have n1_ := aM (hbox); have n2_ := aM ((ze : w.heap.size ≤ gb855)); have n3_ := aM ((ze : w.heap.size ≤ gb855)); clear HB; have HB := n0_; have BK855 := n1_; have GW855 := n2_; have GE855 := n3_; clear n0_ n1_ n2_ n3_; clear hb hbox hg) | ((with_reducible refine gate_dst (N := 3) rfl ?_); refine zx 3 #[.slice A1_0 l1_0.length c1_0, .int .i64 a1_1, .bool a1_2] 51 ?_; intro gb856 hg w32 hbox hb; have n0_ := aM (blk_below (g := gb855) (o := .cells #[.slice A0_0 l0_0.length c0_0, .int .i64 a0_1, .bool a0_2] 51 (0, 0)) (mB_ BK855.out) hb); have n1_ := aM (below_step (zs GE855.out) hb); have n2_ := aM (hbox); have n3_ := aM ((zf GE855.out : w.heap.size ≤ gb856)); have n4_ := aM ((zf GE855.out : w.heap.size ≤ gb856)); have n5_ := aM ((zl BK855.out : gb855 ≠ gb856)); have n6_ := aM ((zn BK855.out : gb856 ≠ gb855)); clear BK855 HB; have BK855 := n0_; have HB := n1_; have BK856 := n2_; have GW856 := n3_; have GE856 := n4_; have NB855_856 := n5_; have NB856_855 := n6_; clear n0_ n1_ n2_ n3_ n4_ n5_ n6_ hb hbox hg; have hnb33 := NB855_856.out; have hnc33 := NB856_855.out; have hcz34_0 : w32.cell? ⟨gb855, 0, none⟩ = some (.slice A0_0 l0_0.length c0_0) := (blk_cell BK855.out 0).trans rfl; have hcz34_1 : w32.cell? ⟨gb855, 1, none⟩ = some (.int .i64 a0_1) := (blk_cell BK855.out 1).trans rfl; have hcz34_2 : w32.cell? ⟨gb855, 2, none⟩ = some (.bool a0_2) := (blk_cell BK855.out 2).trans rfl; have hfz34_0 := blk_frozen BK855.out 0; have hfz34_1 := blk_frozen BK855.out 1; have hfz34_2 := blk_frozen BK855.out 2; have hcz35_0 : w32.cell? ⟨gb856, 0, none⟩ = some (.slice A1_0 l1_0.length c1_0) := (blk_cell BK856.out 0).trans rfl; have hcz35_1 : w32.cell? ⟨gb856, 1, none⟩ = some (.int .i64 a1_1) := (blk_cell BK856.out 1).trans rfl; have hcz35_2 : w32.cell? ⟨gb856, 2, none⟩ = some (.bool a1_2) := (blk_cell BK856.out 2).trans rfl; have hfz35_0 := blk_frozen BK856.out 0; have hfz35_1 := blk_frozen BK856.out 1; have hfz35_2 := blk_frozen BK856.out 2) | ((with_reducible refine gate_callee (f := 13) rfl ?_); refine goesL_ (some 9) rfl rfl Try.func13 (by kernel_rfl) rfl #[.slice A0_0 l0_0.length c0_0, .slice A1_0 l1_0.length c1_0] rfl zm ?_; (with_reducible refine (laws_eqCellS.calls k _ _ l0_0 _ _ l1_0 false _ ?side1 ?side2 ?side3 ?side4 A3.out).mono ?_); (case side1 => repeat (first | exact (Kd.C_below HR0_0.out HB.out) | (with_reducible refine Kd.C_alloc ?_ _) | (with_reducible refine Kd.C_drewN ?_ _) | (with_reducible refine Kd.C_drew ?_))); (case side2 => exact HC0_0.out); (case side3 => repeat (first | exact (Kd.C_below HR1_0.out HB.out) | (with_reducible refine Kd.C_alloc ?_ _) | (with_reducible refine Kd.C_drewN ?_ _) | (with_reducible refine Kd.C_drew ?_))); (case side4 => exact HC1_0.out); rintro e w36 ⟨rfl, hb⟩; refine ⟨_, rfl, ?_⟩; have n0_ := aM (blk_below (g := gb855) (o := .cells #[.slice A0_0 l0_0.length c0_0, .int .i64 a0_1, .bool a0_2] 51 (0, 0)) (mB_ BK855.out) hb); have n1_ := aM (blk_below (g := gb856) (o := .cells #[.slice A1_0 l1_0.length c1_0, .int .i64 a1_1, .bool a1_2] 51 (0, 0)) (mB_ BK856.out) hb); have n2_ := aM (below_step (zt GE855.out GE856.out) hb); clear BK855 BK856 HB; have BK855 := n0_; have BK856 := n1_; have HB := n2_; clear n0_ n1_ n2_; (try clear hb); (try clear hb2); (try clear hk); (try clear hi)))
  go_ret
  exact ⟨zw, zt GE855.out GE856.out⟩
 subst c4
 have H1 : (if a0_1 = a1_1 then (if (a0_2 != a1_2) = true then (some false) else (some true)) else (some false)) = some r := by rw [if_pos rfl] at H; exact H
 clear H
 have H := H1
 clear H1
 by_cases c5 : a0_1 = a1_1
 rotate_left
 ·rw [if_neg c5] at H
  have c5b0 : (a0_1 == a1_1) = false := beq_eq_false_iff_ne.mpr c5
  have c5b1 : (a0_1 != a1_1) = true := bne_iff_ne.mpr c5
  obtain rfl := Option.some.inj H
  go_enter Try.func36, Try.ntmps36
  go_wp2_with (first | ((with_reducible refine gate_dst (N := 2) rfl ?_); refine zx 2 #[.slice A0_0 l0_0.length c0_0, .int .i64 a0_1, .bool a0_2] 51 ?_; intro gb855 hg w23 hbox hb; have n0_ := aM (below_step zb hb); have n1_ := aM (hbox); have n2_ := aM ((ze : w.heap.size ≤ gb855)); have n3_ := aM ((ze : w.heap.size ≤ gb855)); clear HB; have HB := n0_; have BK855 := n1_; have GW855 := n2_; have GE855 := n3_; clear n0_ n1_ n2_ n3_; clear hb hbox hg) | ((with_reducible refine gate_dst (N := 3) rfl ?_); refine zx 3 #[.slice A1_0 l1_0.length c1_0, .int .i64 a1_1, .bool a1_2] 51 ?_; intro gb856 hg w24 hbox hb; have n0_ := aM (blk_below (g := gb855) (o := .cells #[.slice A0_0 l0_0.length c0_0, .int .i64 a0_1, .bool a0_2] 51 (0, 0)) (mB_ BK855.out) hb); have n1_ := aM (below_step (zs GE855.out) hb); have n2_ := aM (hbox); have n3_ := aM ((zf GE855.out : w.heap.size ≤ gb856)); have n4_ := aM ((zf GE855.out : w.heap.size ≤ gb856)); have n5_ := aM ((zl BK855.out : gb855 ≠ gb856)); have n6_ := aM ((zn BK855.out : gb856 ≠ gb855)); clear BK855 HB; have BK855 := n0_; have HB := n1_; have BK856 := n2_; have GW856 := n3_; have GE856 := n4_; have NB855_856 := n5_; have NB856_855 := n6_; clear n0_ n1_ n2_ n3_ n4_ n5_ n6_ hb hbox hg; have hnb25 := NB855_856.out; have hnc25 := NB856_855.out; have hcz26_0 : w24.cell? ⟨gb855, 0, none⟩ = some (.slice A0_0 l0_0.length c0_0) := (blk_cell BK855.out 0).trans rfl; have hcz26_1 : w24.cell? ⟨gb855, 1, none⟩ = some (.int .i64 a0_1) := (blk_cell BK855.out 1).trans rfl; have hcz26_2 : w24.cell? ⟨gb855, 2, none⟩ = some (.bool a0_2) := (blk_cell BK855.out 2).trans rfl; have hfz26_0 := blk_frozen BK855.out 0; have hfz26_1 := blk_frozen BK855.out 1; have hfz26_2 := blk_frozen BK855.out 2; have hcz27_0 : w24.cell? ⟨gb856, 0, none⟩ = some (.slice A1_0 l1_0.length c1_0) := (blk_cell BK856.out 0).trans rfl; have hcz27_1 : w24.cell? ⟨gb856, 1, none⟩ = some (.int .i64 a1_1) := (blk_cell BK856.out 1).trans rfl; have hcz27_2 : w24.cell? ⟨gb856, 2, none⟩ = some (.bool a1_2) := (blk_cell BK856.out 2).trans rfl; have hfz27_0 := blk_frozen BK856.out 0; have hfz27_1 := blk_frozen BK856.out 1; have hfz27_2 := blk_frozen BK856.out 2) | ((with_reducible refine gate_callee (f := 13) rfl ?_); refine goesL_ (some 9) rfl rfl Try.func13 (by kernel_rfl) rfl #[.slice A0_0 l0_0.length c0_0, .slice A1_0 l1_0.length c1_0] rfl zm ?_; (with_reducible refine (laws_eqCellS.calls k _ _ l0_0 _ _ l1_0 true _ ?side1 ?side2 ?side3 ?side4 A3.out).mono ?_); (case side1 => repeat (first | exact (Kd.C_below HR0_0.out HB.out) | (with_reducible refine Kd.C_alloc ?_ _) | (with_reducible refine Kd.C_drewN ?_ _) | (with_reducible refine Kd.C_drew ?_))); (case side2 => exact HC0_0.out); (case side3 => repeat (first | exact (Kd.C_below HR1_0.out HB.out) | (with_reducible refine Kd.C_alloc ?_ _) | (with_reducible refine Kd.C_drewN ?_ _) | (with_reducible refine Kd.C_drew ?_))); (case side4 => exact HC1_0.out); rintro e w28 ⟨rfl, hb⟩; refine ⟨_, rfl, ?_⟩; have n0_ := aM (blk_below (g := gb855) (o := .cells #[.slice A0_0 l0_0.length c0_0, .int .i64 a0_1, .bool a0_2] 51 (0, 0)) (mB_ BK855.out) hb); have n1_ := aM (blk_below (g := gb856) (o := .cells #[.slice A1_0 l1_0.length c1_0, .int .i64 a1_1, .bool a1_2] 51 (0, 0)) (mB_ BK856.out) hb); have n2_ := aM (below_step (zt GE855.out GE856.out) hb); clear BK855 BK856 HB; have BK855 := n0_; have BK856 := n1_; have HB := n2_; clear n0_ n1_ n2_; (try clear hb); (try clear hb2); (try clear hk); (try clear hi); have hcz29_0 : w28.cell? ⟨gb855, 0, none⟩ = some (.slice A0_0 l0_0.length c0_0) := (blk_cell BK855.out 0).trans rfl; have hcz29_1 : w28.cell? ⟨gb855, 1, none⟩ = some (.int .i64 a0_1) := (blk_cell BK855.out 1).trans rfl; have hcz29_2 : w28.cell? ⟨gb855, 2, none⟩ = some (.bool a0_2) := (blk_cell BK855.out 2).trans rfl; have hfz29_0 := blk_frozen BK855.out 0; have hfz29_1 := blk_frozen BK855.out 1; have hfz29_2 := blk_frozen BK855.out 2; have hcz30_0 : w28.cell? ⟨gb856, 0, none⟩ = some (.slice A1_0 l1_0.length c1_0) := (blk_cell BK856.out 0).trans rfl; have hcz30_1 : w28.cell? ⟨gb856, 1, none⟩ = some (.int .i64 a1_1) := (blk_cell BK856.out 1).trans rfl; have hcz30_2 : w28.cell? ⟨gb856, 2, none⟩ = some (.bool a1_2) := (blk_cell BK856.out 2).trans rfl; have hfz30_0 := blk_frozen BK856.out 0; have hfz30_1 := blk_frozen BK856.out 1; have hfz30_2 := blk_frozen BK856.out 2))
  go_ret
  exact ⟨zw, zt GE855.out GE856.out⟩
 rw [if_pos c5] at H
 have c5b0 : (a0_1 == a1_1) = true := beq_iff_eq.mpr c5
 have c5b1 : (a0_1 != a1_1) = false := bne_eq_false_iff_eq.mpr c5
 clear c5
 by_cases c6 : (a0_2 != a1_2) = true
 rotate_left
 ·rw [if_neg c6] at H
  have c6b0 : (a0_2 != a1_2) = false := by simpa using c6
  (try (have c6b1 : decide (a0_2 = a1_2) = true := by simpa using c6))
  (try (have c6b2 : (a0_2 == a1_2) = true := by simpa using c6))
  clear c6
  obtain rfl := Option.some.inj H
  go_enter Try.func36, Try.ntmps36
  go_wp2_with (first | ((with_reducible refine gate_dst (N := 2) rfl ?_); refine zx 2 #[.slice A0_0 l0_0.length c0_0, .int .i64 a0_1, .bool a0_2] 51 ?_; intro gb855 hg w15 hbox hb; have n0_ := aM (below_step zb hb); have n1_ := aM (hbox); have n2_ := aM ((ze : w.heap.size ≤ gb855)); have n3_ := aM ((ze : w.heap.size ≤ gb855)); clear HB; have HB := n0_; have BK855 := n1_; have GW855 := n2_; have GE855 := n3_; clear n0_ n1_ n2_ n3_; clear hb hbox hg) | ((with_reducible refine gate_dst (N := 3) rfl ?_); refine zx 3 #[.slice A1_0 l1_0.length c1_0, .int .i64 a1_1, .bool a1_2] 51 ?_; intro gb856 hg w16 hbox hb; have n0_ := aM (blk_below (g := gb855) (o := .cells #[.slice A0_0 l0_0.length c0_0, .int .i64 a0_1, .bool a0_2] 51 (0, 0)) (mB_ BK855.out) hb); have n1_ := aM (below_step (zs GE855.out) hb); have n2_ := aM (hbox); have n3_ := aM ((zf GE855.out : w.heap.size ≤ gb856)); have n4_ := aM ((zf GE855.out : w.heap.size ≤ gb856)); have n5_ := aM ((zl BK855.out : gb855 ≠ gb856)); have n6_ := aM ((zn BK855.out : gb856 ≠ gb855)); clear BK855 HB; have BK855 := n0_; have HB := n1_; have BK856 := n2_; have GW856 := n3_; have GE856 := n4_; have NB855_856 := n5_; have NB856_855 := n6_; clear n0_ n1_ n2_ n3_ n4_ n5_ n6_ hb hbox hg; have hnb17 := NB855_856.out; have hnc17 := NB856_855.out; have hcz18_0 : w16.cell? ⟨gb855, 0, none⟩ = some (.slice A0_0 l0_0.length c0_0) := (blk_cell BK855.out 0).trans rfl; have hcz18_1 : w16.cell? ⟨gb855, 1, none⟩ = some (.int .i64 a0_1) := (blk_cell BK855.out 1).trans rfl; have hcz18_2 : w16.cell? ⟨gb855, 2, none⟩ = some (.bool a0_2) := (blk_cell BK855.out 2).trans rfl; have hfz18_0 := blk_frozen BK855.out 0; have hfz18_1 := blk_frozen BK855.out 1; have hfz18_2 := blk_frozen BK855.out 2; have hcz19_0 : w16.cell? ⟨gb856, 0, none⟩ = some (.slice A1_0 l1_0.length c1_0) := (blk_cell BK856.out 0).trans rfl; have hcz19_1 : w16.cell? ⟨gb856, 1, none⟩ = some (.int .i64 a1_1) := (blk_cell BK856.out 1).trans rfl; have hcz19_2 : w16.cell? ⟨gb856, 2, none⟩ = some (.bool a1_2) := (blk_cell BK856.out 2).trans rfl; have hfz19_0 := blk_frozen BK856.out 0; have hfz19_1 := blk_frozen BK856.out 1; have hfz19_2 := blk_frozen BK856.out 2) | ((with_reducible refine gate_callee (f := 13) rfl ?_); refine goesL_ (some 9) rfl rfl Try.func13 (by kernel_rfl) rfl #[.slice A0_0 l0_0.length c0_0, .slice A1_0 l1_0.length c1_0] rfl zm ?_; (with_reducible refine (laws_eqCellS.calls k _ _ l0_0 _ _ l1_0 true _ ?side1 ?side2 ?side3 ?side4 A3.out).mono ?_); (case side1 => repeat (first | exact (Kd.C_below HR0_0.out HB.out) | (with_reducible refine Kd.C_alloc ?_ _) | (with_reducible refine Kd.C_drewN ?_ _) | (with_reducible refine Kd.C_drew ?_))); (case side2 => exact HC0_0.out); (case side3 => repeat (first | exact (Kd.C_below HR1_0.out HB.out) | (with_reducible refine Kd.C_alloc ?_ _) | (with_reducible refine Kd.C_drewN ?_ _) | (with_reducible refine Kd.C_drew ?_))); (case side4 => exact HC1_0.out); rintro e w20 ⟨rfl, hb⟩; refine ⟨_, rfl, ?_⟩; have n0_ := aM (blk_below (g := gb855) (o := .cells #[.slice A0_0 l0_0.length c0_0, .int .i64 a0_1, .bool a0_2] 51 (0, 0)) (mB_ BK855.out) hb); have n1_ := aM (blk_below (g := gb856) (o := .cells #[.slice A1_0 l1_0.length c1_0, .int .i64 a1_1, .bool a1_2] 51 (0, 0)) (mB_ BK856.out) hb); have n2_ := aM (below_step (zt GE855.out GE856.out) hb); clear BK855 BK856 HB; have BK855 := n0_; have BK856 := n1_; have HB := n2_; clear n0_ n1_ n2_; (try clear hb); (try clear hb2); (try clear hk); (try clear hi); have hcz21_0 : w20.cell? ⟨gb855, 0, none⟩ = some (.slice A0_0 l0_0.length c0_0) := (blk_cell BK855.out 0).trans rfl; have hcz21_1 : w20.cell? ⟨gb855, 1, none⟩ = some (.int .i64 a0_1) := (blk_cell BK855.out 1).trans rfl; have hcz21_2 : w20.cell? ⟨gb855, 2, none⟩ = some (.bool a0_2) := (blk_cell BK855.out 2).trans rfl; have hfz21_0 := blk_frozen BK855.out 0; have hfz21_1 := blk_frozen BK855.out 1; have hfz21_2 := blk_frozen BK855.out 2; have hcz22_0 : w20.cell? ⟨gb856, 0, none⟩ = some (.slice A1_0 l1_0.length c1_0) := (blk_cell BK856.out 0).trans rfl; have hcz22_1 : w20.cell? ⟨gb856, 1, none⟩ = some (.int .i64 a1_1) := (blk_cell BK856.out 1).trans rfl; have hcz22_2 : w20.cell? ⟨gb856, 2, none⟩ = some (.bool a1_2) := (blk_cell BK856.out 2).trans rfl; have hfz22_0 := blk_frozen BK856.out 0; have hfz22_1 := blk_frozen BK856.out 1; have hfz22_2 := blk_frozen BK856.out 2))
  go_ret
  exact ⟨zw, zt GE855.out GE856.out⟩
 rw [if_pos c6] at H
 have c6b0 : (a0_2 != a1_2) = true := c6
 (try (have c6b1 : decide (a0_2 = a1_2) = false := by simpa using c6))
 (try (have c6b2 : (a0_2 == a1_2) = false := by simpa using c6))
 (try (have c6b3 : ¬ (a0_2 = a1_2) := by simpa using c6))
 clear c6
 obtain rfl := Option.some.inj H
 go_enter Try.func36, Try.ntmps36
 go_wp2_with (first | ((with_reducible refine gate_dst (N := 2) rfl ?_); refine zx 2 #[.slice A0_0 l0_0.length c0_0, .int .i64 a0_1, .bool a0_2] 51 ?_; intro gb855 hg w7 hbox hb; have n0_ := aM (below_step zb hb); have n1_ := aM (hbox); have n2_ := aM ((ze : w.heap.size ≤ gb855)); have n3_ := aM ((ze : w.heap.size ≤ gb855)); clear HB; have HB := n0_; have BK855 := n1_; have GW855 := n2_; have GE855 := n3_; clear n0_ n1_ n2_ n3_; clear hb hbox hg) | ((with_reducible refine gate_dst (N := 3) rfl ?_); refine zx 3 #[.slice A1_0 l1_0.length c1_0, .int .i64 a1_1, .bool a1_2] 51 ?_; intro gb856 hg w8 hbox hb; have n0_ := aM (blk_below (g := gb855) (o := .cells #[.slice A0_0 l0_0.length c0_0, .int .i64 a0_1, .bool a0_2] 51 (0, 0)) (mB_ BK855.out) hb); have n1_ := aM (below_step (zs GE855.out) hb); have n2_ := aM (hbox); have n3_ := aM ((zf GE855.out : w.heap.size ≤ gb856)); have n4_ := aM ((zf GE855.out : w.heap.size ≤ gb856)); have n5_ := aM ((zl BK855.out : gb855 ≠ gb856)); have n6_ := aM ((zn BK855.out : gb856 ≠ gb855)); clear BK855 HB; have BK855 := n0_; have HB := n1_; have BK856 := n2_; have GW856 := n3_; have GE856 := n4_; have NB855_856 := n5_; have NB856_855 := n6_; clear n0_ n1_ n2_ n3_ n4_ n5_ n6_ hb hbox hg; have hnb9 := NB855_856.out; have hnc9 := NB856_855.out; have hcz10_0 : w8.cell? ⟨gb855, 0, none⟩ = some (.slice A0_0 l0_0.length c0_0) := (blk_cell BK855.out 0).trans rfl; have hcz10_1 : w8.cell? ⟨gb855, 1, none⟩ = some (.int .i64 a0_1) := (blk_cell BK855.out 1).trans rfl; have hcz10_2 : w8.cell? ⟨gb855, 2, none⟩ = some (.bool a0_2) := (blk_cell BK855.out 2).trans rfl; have hfz10_0 := blk_frozen BK855.out 0; have hfz10_1 := blk_frozen BK855.out 1; have hfz10_2 := blk_frozen BK855.out 2; have hcz11_0 : w8.cell? ⟨gb856, 0, none⟩ = some (.slice A1_0 l1_0.length c1_0) := (blk_cell BK856.out 0).trans rfl; have hcz11_1 : w8.cell? ⟨gb856, 1, none⟩ = some (.int .i64 a1_1) := (blk_cell BK856.out 1).trans rfl; have hcz11_2 : w8.cell? ⟨gb856, 2, none⟩ = some (.bool a1_2) := (blk_cell BK856.out 2).trans rfl; have hfz11_0 := blk_frozen BK856.out 0; have hfz11_1 := blk_frozen BK856.out 1; have hfz11_2 := blk_frozen BK856.out 2) | ((with_reducible refine gate_callee (f := 13) rfl ?_); refine goesL_ (some 9) rfl rfl Try.func13 (by kernel_rfl) rfl #[.slice A0_0 l0_0.length c0_0, .slice A1_0 l1_0.length c1_0] rfl zm ?_; (with_reducible refine (laws_eqCellS.calls k _ _ l0_0 _ _ l1_0 true _ ?side1 ?side2 ?side3 ?side4 A3.out).mono ?_); (case side1 => repeat (first | exact (Kd.C_below HR0_0.out HB.out) | (with_reducible refine Kd.C_alloc ?_ _) | (with_reducible refine Kd.C_drewN ?_ _) | (with_reducible refine Kd.C_drew ?_))); (case side2 => exact HC0_0.out); (case side3 => repeat (first | exact (Kd.C_below HR1_0.out HB.out) | (with_reducible refine Kd.C_alloc ?_ _) | (with_reducible refine Kd.C_drewN ?_ _) | (with_reducible refine Kd.C_drew ?_))); (case side4 => exact HC1_0.out); rintro e w12 ⟨rfl, hb⟩; refine ⟨_, rfl, ?_⟩; have n0_ := aM (blk_below (g := gb855) (o := .cells #[.slice A0_0 l0_0.length c0_0, .int .i64 a0_1, .bool a0_2] 51 (0, 0)) (mB_ BK855.out) hb); have n1_ := aM (blk_below (g := gb856) (o := .cells #[.slice A1_0 l1_0.length c1_0, .int .i64 a1_1, .bool a1_2] 51 (0, 0)) (mB_ BK856.out) hb); have n2_ := aM (below_step (zt GE855.out GE856.out) hb); clear BK855 BK856 HB; have BK855 := n0_; have BK856 := n1_; have HB := n2_; clear n0_ n1_ n2_; (try clear hb); (try clear hb2); (try clear hk); (try clear hi); have hcz13_0 : w12.cell? ⟨gb855, 0, none⟩ = some (.slice A0_0 l0_0.length c0_0) := (blk_cell BK855.out 0).trans rfl; have hcz13_1 : w12.cell? ⟨gb855, 1, none⟩ = some (.int .i64 a0_1) := (blk_cell BK855.out 1).trans rfl; have hcz13_2 : w12.cell? ⟨gb855, 2, none⟩ = some (.bool a0_2) := (blk_cell BK855.out 2).trans rfl; have hfz13_0 := blk_frozen BK855.out 0; have hfz13_1 := blk_frozen BK855.out 1; have hfz13_2 := blk_frozen BK855.out 2; have hcz14_0 : w12.cell? ⟨gb856, 0, none⟩ = some (.slice A1_0 l1_0.length c1_0) := (blk_cell BK856.out 0).trans rfl; have hcz14_1 : w12.cell? ⟨gb856, 1, none⟩ = some (.int .i64 a1_1) := (blk_cell BK856.out 1).trans rfl; have hcz14_2 : w12.cell? ⟨gb856, 2, none⟩ = some (.bool a1_2) := (blk_cell BK856.out 2).trans rfl; have hfz14_0 := blk_frozen BK856.out 0; have hfz14_1 := blk_frozen BK856.out 1; have hfz14_2 := blk_frozen BK856.out 2))
 go_ret
 exact ⟨zw, zt GE855.out GE856.out⟩
end Go.Proofs.Ytfdfdifjkaaeoaa.F
end
section
namespace Go.Proofs.Ytfdfdifjkaaeoaa.F
open Go.RowKit Go.Proofs.YtfdfdifjkaaeoaaW.PrintWords Go.Proofs.YtfdfdifjkaaeoaaW.PrintLast Go.Proofs.YtfdfdifjkaaeoaaW.PrintMore
attribute [local go_sem] max2_int min2_int max_two min_two max_three min_three max_four min_four
set_option linter.unusedVariables false
set_option linter.unusedSimpArgs false
mutual
def spec_l11Alike.l0 : Nat → List (List (S59)) → List (List (S59)) → Int → Option (Bool)
 | 0, _, _, _ => none
 | k + 1, x5, x6, x7 => if x7 < (x5.length : Int) then (spec_l11Alike.l1 k x5 x6 x7 0) else (some false)
def spec_l11Alike.l1 : Nat → List (List (S59)) → List (List (S59)) → Int → Int → Option (Bool)
 | 0, _, _, _, _ => none
 | k + 1, x5, x6, x7, x8 => if x8 < (x6.length : Int) then (if 0 ≤ x7 then (if x7 < (x5.length : Int) then (if 0 ≤ x8 then ((spec_CompareShapes.f k (rd_L2 x5 x7) (rd_L2 x6 x8)).bind fun t791 => (if t791 = 0 then (some true) else (spec_l11Alike.l1 k x5 x6 x7 (wrap64 (x8 + 1))))) else (none)) else (none)) else (none)) else (spec_l11Alike.l0 k x5 x6 (wrap64 (x7 + 1)))
end
def spec_l11Alike.f (k : Nat) (l0_0 : List (S59)) (a0_1 : Int) (a0_2 : Bool) (l1_0 : List (S59)) (a1_1 : Int) (a1_2 : Bool) : Option (Bool) := (spec_l11Forms.f k l0_0 a0_1 a0_2).bind fun t783 => ((spec_l11Forms.f k l1_0 a1_1 a1_2).bind fun t786 => (spec_l11Alike.l0 k t783 t786 0))
def spec_l11Alike.T8 : Bool × List (List Nat × List Nat) := (true, [([], []), ([], []), ([0, 1], [0, 1]), ([2], [2]), ([], []), ([], []), ([4, 5], [4, 5]), ([6], [6]), ([3, 7], [3, 7]), ([8], [8])])
def spec_l11Alike.B8 : List Nat := [0, 0, 3, 7, 0, 0, 48, 112, 255, 511]
theorem spec_l11Alike.tab8 : rtab .any (opsOf Try.f74 8) = spec_l11Alike.T8 := by kernel_rfl
theorem spec_l11Alike.bits8 : waitsOk spec_l11Alike.T8.2 spec_l11Alike.B8 = true := by kernel_rfl
theorem spec_l11Alike.calls (k : Nat) (A0_0 : Option Addr) (c0_0 : Nat) (l0_0 : List (S59)) (a0_1 : Int) (a0_2 : Bool) (A1_0 : Option Addr) (c1_0 : Nat) (l1_0 : List (S59)) (a1_1 : Int) (a1_2 : Bool) (r : Bool) (w : World) (hr0_0 : Kd.C k59 w A0_0 l0_0.length l0_0) (hc0_0 : l0_0.length ≤ c0_0) (hr1_0 : Kd.C k59 w A1_0 l1_0.length l1_0) (hc1_0 : l1_0.length ≤ c1_0) (h : spec_l11Alike.f k l0_0 a0_1 a0_2 l1_0 a1_1 a1_2 = some r) :
  Calls Try.prog 74 #[.agg #[.slice A0_0 l0_0.length c0_0, .int .i64 a0_1, .bool a0_2], .agg #[.slice A1_0 l1_0.length c1_0, .int .i64 a1_1, .bool a1_2]] w fun e w' => e = .returned (.bool r) ∧ Below w.heap.size w w' := by
 have hu51 := Try.underlying51
 have HR0_0 := aM hr0_0
 have HC0_0 := aM hc0_0
 clear hr0_0 hc0_0
 have HR1_0 := aM hr1_0
 have HC1_0 := aM hc1_0
 clear hr1_0 hc1_0
 have HB := aM (Below.refl w.heap.size w)
 have H : ((spec_l11Forms.f k l0_0 a0_1 a0_2).bind fun t783 => ((spec_l11Forms.f k l1_0 a1_1 a1_2).bind fun t786 => (spec_l11Alike.l0 k t783 t786 0))) = some r := h
 clear h
 replace H := Option.bind_eq_some_iff.mp H
 obtain ⟨t783, A30, H⟩ := H
 replace H : ((spec_l11Forms.f k l1_0 a1_1 a1_2).bind fun t786 => (spec_l11Alike.l0 k t783 t786 0)) = some r := H
 have A3 := aM A30
 clear A30
 replace H := Option.bind_eq_some_iff.mp H
 obtain ⟨t786, A40, H⟩ := H
 replace H : (spec_l11Alike.l0 k t783 t786 0) = some r := H
 have A4 := aM A40
 clear A40
 have H' := aM H
 clear H
 go_enter Try.func74, Try.ntmps74
 try go_wp2_with (first | ((with_reducible refine gate_dst (N := 2) rfl ?_); refine zx 2 #[.slice A0_0 l0_0.length c0_0, .int .i64 a0_1, .bool a0_2] 51 ?_; intro gb781 hg w5 hbox hb; have n0_ := aM (below_step zb hb); have n1_ := aM (hbox); have n2_ := aM ((ze : w.heap.size ≤ gb781)); have n3_ := aM ((ze : w.heap.size ≤ gb781)); clear HB; have HB := n0_; have BK781 := n1_; have GW781 := n2_; have GE781 := n3_; clear n0_ n1_ n2_ n3_; clear hb hbox hg) | ((with_reducible refine gate_dst (N := 3) rfl ?_); refine zx 3 #[.slice A1_0 l1_0.length c1_0, .int .i64 a1_1, .bool a1_2] 51 ?_; intro gb782 hg w6 hbox hb; have n0_ := aM (blk_below (g := gb781) (o := .cells #[.slice A0_0 l0_0.length c0_0, .int .i64 a0_1, .bool a0_2] 51 (0, 0)) (mB_ BK781.out) hb); have n1_ := aM (below_step (zs GE781.out) hb); have n2_ := aM (hbox); have n3_ := aM ((zf GE781.out : w.heap.size ≤ gb782)); have n4_ := aM ((zf GE781.out : w.heap.size ≤ gb782)); have n5_ := aM ((zl BK781.out : gb781 ≠ gb782)); have n6_ := aM ((zn BK781.out : gb782 ≠ gb781)); clear BK781 HB; have BK781 := n0_; have HB := n1_; have BK782 := n2_; have GW782 := n3_; have GE782 := n4_; have NB781_782 := n5_; have NB782_781 := n6_; clear n0_ n1_ n2_ n3_ n4_ n5_ n6_; clear hb hbox hg))
 have n0_ := aM (blk_drew BK781.out)
 have n1_ := aM (blk_drew BK782.out)
 have n2_ := aM (below_drew1 HB.out)
 clear BK781
 clear BK782
 clear HB
 have BK781 := n0_
 have BK782 := n1_
 have HB := n2_
 clear n0_ n1_ n2_
 refine start_ (n := 6) (S := fun w' => w'.cell? ⟨gb781, 0, none⟩ = some (.slice A0_0 l0_0.length c0_0) ∧ w'.cell? ⟨gb781, 1, none⟩ = some (.int .i64 a0_1) ∧ w'.cell? ⟨gb781, 2, none⟩ = some (.bool a0_2) ∧ w'.cell? ⟨gb782, 0, none⟩ = some (.slice A1_0 l1_0.length c1_0) ∧ w'.cell? ⟨gb782, 1, none⟩ = some (.int .i64 a1_1) ∧ w'.cell? ⟨gb782, 2, none⟩ = some (.bool a1_2)) (ds := []) #[false, false, false, false, false, false] (by kernel_rfl) rfl rfl ⟨(blk_cell BK781.out 0).trans rfl, (blk_cell BK781.out 1).trans rfl, (blk_cell BK781.out 2).trans rfl, (blk_cell BK782.out 0).trans rfl, (blk_cell BK782.out 1).trans rfl, (blk_cell BK782.out 2).trans rfl⟩ (fun hHeld => ?_)
 generalize w6.drew = w7 at BK781 BK782 HB hHeld ⊢
 refine take_ (i := 0) (N := some 9) (v := ?_) (a' := ?_) #[true, false, false, false, false, false] rfl rfl (by kernel_rfl) (fun _ _ _ h => h) (Or.inl ⟨by rfl, ?_⟩) hHeld ?_ ?_
 rotate_left
 ·rintro w' ⟨s0, s1, s2, s3, s4, s5⟩
  go_simp
  with_reducible rfl
 rotate_left
 ·simp only [Act.put, xA, xB, xC, i64_w, i32_w]
  rfl
 refine take_ (i := 2) (N := some 11) (v := ?_) (a' := ?_) #[true, false, true, false, false, false] rfl rfl (by kernel_rfl) (fun _ _ _ h => h) (Or.inl ⟨by rfl, ?_⟩) hHeld ?_ ?_
 rotate_left
 ·rintro w' ⟨s0, s1, s2, s3, s4, s5⟩
  go_simp
  with_reducible rfl
 rotate_left
 ·simp only [Act.put, xA, xB, xC, i64_w, i32_w]
  rfl
 refine one_ (i := 1) (N := some 10) #[true, true, true, false, false, false] rfl rfl (by kernel_rfl) (by decide) (fun K hK => ?_)
 refine goes_ Try.func89 (by kernel_rfl) rfl #[.agg #[.slice A0_0 l0_0.length c0_0, .int .i64 a0_1, .bool a0_2]] (by rfl) rfl rfl zm ?_
 with_reducible refine (spec_l11Forms.calls k _ _ l0_0 a0_1 a0_2 t783 _ ?side1 ?side2 A3.out).mono ?_
 (case side1 => repeat (first | exact (Kd.C_below HR0_0.out HB.out) | (with_reducible refine Kd.C_alloc ?_ _) | (with_reducible refine Kd.C_drewN ?_ _) | (with_reducible refine Kd.C_drew ?_)))
 (case side2 => exact HC0_0.out)
 rintro e w8 ⟨v784, rfl, ho0, hb⟩
 refine ⟨_, rfl, ?_⟩
 have n0_ := aM (Kd.V_lower (Kd.V_mono (ok' := fun k_ => k_ ≠ gb781 ∧ k_ ≠ gb782) ho0 (fun k_ hk_ => ⟨(Kd.freshB (g := gb781) (o := .cells #[.slice A0_0 l0_0.length c0_0, .int .i64 a0_1, .bool a0_2] 51 (0, 0)) (mB_ BK781.out) k_ hk_), (Kd.freshB (g := gb782) (o := .cells #[.slice A1_0 l1_0.length c1_0, .int .i64 a1_1, .bool a1_2] 51 (0, 0)) (mB_ BK782.out) k_ hk_)⟩)) (below_size (zt GE781.out GE782.out)))
 have n1_ := aM (blk_below (g := gb781) (o := .cells #[.slice A0_0 l0_0.length c0_0, .int .i64 a0_1, .bool a0_2] 51 (0, 0)) (mB_ BK781.out) hb)
 have n2_ := aM (blk_below (g := gb782) (o := .cells #[.slice A1_0 l1_0.length c1_0, .int .i64 a1_1, .bool a1_2] 51 (0, 0)) (mB_ BK782.out) hb)
 have n3_ := aM (below_step (zt GE781.out GE782.out) hb)
 clear BK781
 clear BK782
 clear HB
 have HO785 := n0_
 have BK781 := n1_
 have BK782 := n2_
 have HB := n3_
 clear n0_ n1_ n2_ n3_
 (try clear hb)
 (try clear hb2)
 (try clear hk)
 (try clear hi)
 (try clear ho0)
 refine hK.out _ _ ⟨(blk_cell BK781.out 0).trans rfl, (blk_cell BK781.out 1).trans rfl, (blk_cell BK781.out 2).trans rfl, (blk_cell BK782.out 0).trans rfl, (blk_cell BK782.out 1).trans rfl, (blk_cell BK782.out 2).trans rfl⟩ (fun hHeld => ?_)
 clear hK K
 refine norm_ (a' := ?_) ?_ ?_
 rotate_left
 ·show Act.put _ (some 10) _ = _
  simp only [Act.put, xA, xB, xC, i64_w, i32_w]
  rfl
 refine one_ (i := 3) (N := some 12) #[true, true, true, true, false, false] rfl rfl (by kernel_rfl) (by decide) (fun K hK => ?_)
 refine goes_ Try.func89 (by kernel_rfl) rfl #[.agg #[.slice A1_0 l1_0.length c1_0, .int .i64 a1_1, .bool a1_2]] (by rfl) rfl rfl zm ?_
 with_reducible refine (spec_l11Forms.calls k _ _ l1_0 a1_1 a1_2 t786 _ ?side1 ?side2 A4.out).mono ?_
 (case side1 => repeat (first | exact (Kd.C_below HR1_0.out HB.out) | (with_reducible refine Kd.C_alloc ?_ _) | (with_reducible refine Kd.C_drewN ?_ _) | (with_reducible refine Kd.C_drew ?_)))
 (case side2 => exact HC1_0.out)
 rintro e w9 ⟨v787, rfl, ho0, hb⟩
 refine ⟨_, rfl, ?_⟩
 have n0_ := aM (Kd.V_below (mV_ HO785.out) hb)
 have n1_ := aM (Kd.V_lower (Kd.V_mono (ok' := fun k_ => k_ ≠ gb781 ∧ k_ ≠ gb782) ho0 (fun k_ hk_ => ⟨(Kd.freshB (g := gb781) (o := .cells #[.slice A0_0 l0_0.length c0_0, .int .i64 a0_1, .bool a0_2] 51 (0, 0)) (mB_ BK781.out) k_ hk_), (Kd.freshB (g := gb782) (o := .cells #[.slice A1_0 l1_0.length c1_0, .int .i64 a1_1, .bool a1_2] 51 (0, 0)) (mB_ BK782.out) k_ hk_)⟩)) (below_size (zt GE781.out GE782.out)))
 have n2_ := aM (blk_below (g := gb781) (o := .cells #[.slice A0_0 l0_0.length c0_0, .int .i64 a0_1, .bool a0_2] 51 (0, 0)) (mB_ BK781.out) hb)
 have n3_ := aM (blk_below (g := gb782) (o := .cells #[.slice A1_0 l1_0.length c1_0, .int .i64 a1_1, .bool a1_2] 51 (0, 0)) (mB_ BK782.out) hb)
 have n4_ := aM (below_step (zt GE781.out GE782.out) hb)
 clear HO785
 clear BK781
 clear BK782
 clear HB
 have HO785 := n0_
 have HO788 := n1_
 have BK781 := n2_
 have BK782 := n3_
 have HB := n4_
 clear n0_ n1_ n2_ n3_ n4_
 (try clear hb)
 (try clear hb2)
 (try clear hk)
 (try clear hi)
 (try clear ho0)
 refine hK.out _ _ ⟨(blk_cell BK781.out 0).trans rfl, (blk_cell BK781.out 1).trans rfl, (blk_cell BK781.out 2).trans rfl, (blk_cell BK782.out 0).trans rfl, (blk_cell BK782.out 1).trans rfl, (blk_cell BK782.out 2).trans rfl⟩ (fun hHeld => ?_)
 clear hK K
 refine norm_ (a' := ?_) ?_ ?_
 rotate_left
 ·show Act.put _ (some 12) _ = _
  simp only [Act.put, xA, xB, xC, i64_w, i32_w]
  rfl
 refine pure_ (i := 4) (N := some 5) (v := ?_) (a' := ?_) #[true, true, true, true, true, false] rfl rfl (by kernel_rfl) (fun _ _ _ h => h) (Or.inl ⟨by rfl, ?_⟩) ?_ ?_
 rotate_left
 ·intro w'
  go_simp
  with_reducible rfl
 rotate_left
 ·simp only [Act.put, xA, xB, xC, i64_w, i32_w]
  rfl
 refine pure_ (i := 5) (N := some 6) (v := ?_) (a' := ?_) #[true, true, true, true, true, true] rfl rfl (by kernel_rfl) (fun _ _ _ h => h) (Or.inl ⟨by rfl, ?_⟩) ?_ ?_
 rotate_left
 ·intro w'
  go_simp
  with_reducible rfl
 rotate_left
 ·simp only [Act.put, xA, xB, xC, i64_w, i32_w]
  rfl
 refine done_ (by kernel_rfl) ?_
 try go_wp2
 go_loopg [7] k (fun kq v7 w' => ∃ (x7_1 : Int), v7 = .int .i64 x7_1 ∧ Aside0 (spec_l11Alike.l0 kq t783 t786 x7_1 = some r) ∧ Aside0 (kq ≤ k) ∧ Aside0 (Kd.V (Kd.slice 59 k59) 24 w' w.heap.size (fun k_ => k_ ≠ gb781 ∧ k_ ≠ gb782) v784 t783) ∧ Aside0 (Kd.V (Kd.slice 59 k59) 24 w' w.heap.size (fun k_ => k_ ≠ gb781 ∧ k_ ≠ gb782) v787 t786) ∧ Aside0 (w'.heap[gb781]? = some (.cells #[(.slice A0_0 l0_0.length c0_0), .int .i64 a0_1, .bool a0_2] 51 (0, 0))) ∧ Aside0 (w'.heap[gb782]? = some (.cells #[(.slice A1_0 l1_0.length c1_0), .int .i64 a1_1, .bool a1_2] 51 (0, 0))) ∧ Aside0 (Below w.heap.size w w'))
 case atStart => exact ⟨(0), zr, H', ⟨Nat.le_refl _⟩, ⟨mV_ HO785.out⟩, ⟨mV_ HO788.out⟩, ⟨mB_ BK781.out⟩, ⟨mB_ BK782.out⟩, ⟨zt GE781.out GE782.out⟩⟩
 case round =>
  clear H'
  try clear c1
  try clear p2
  try clear c7
  try clear c8
  obtain ⟨x7_1, rfl, HA, HK1, HO_5, HO_6, BK781, BK782, HB⟩ := hrel
  cases gk with
  | zero => exact absurd HA.out (by simp [spec_l11Alike.l0])
  | succ k1 =>
   have H := HA.out
   clear HA
   simp only [spec_l11Alike.l0] at H
   by_cases c10 : x7_1 < (t783.length : Int)
   rotate_left
   ·rw [if_neg c10] at H
    have c10b0 : decide (x7_1 < (t783.length : Int)) = false := decide_eq_false c10
    clear c10
    obtain rfl := Option.some.inj H
    obtain ⟨Ao25, co25, eo25⟩ := Kd.V_slice HO_5.out
    subst eo25
    go_wp2
    go_ret
    exact ⟨zw, zt GE781.out GE782.out⟩
   rw [if_pos c10] at H
   have c10b0 : decide (x7_1 < (t783.length : Int)) = true := decide_eq_true c10
   clear c10
   have H' := aM H
   clear H
   obtain ⟨Ao11, co11, eo11⟩ := Kd.V_slice HO_5.out
   subst eo11
   go_wp2
   go_loopg [8] k1 (fun kq v8 w' => ∃ (x8_2 : Int), v8 = .int .i64 x8_2 ∧ Aside0 (spec_l11Alike.l1 kq t783 t786 x7_1 x8_2 = some r) ∧ Aside0 (kq ≤ k1) ∧ Aside0 (Kd.V (Kd.slice 59 k59) 24 w' w.heap.size (fun k_ => k_ ≠ gb781 ∧ k_ ≠ gb782) (.slice Ao11 t783.length co11) t783) ∧ Aside0 (Kd.V (Kd.slice 59 k59) 24 w' w.heap.size (fun k_ => k_ ≠ gb781 ∧ k_ ≠ gb782) v787 t786) ∧ Aside0 (w'.heap[gb781]? = some (.cells #[(.slice A0_0 l0_0.length c0_0), .int .i64 a0_1, .bool a0_2] 51 (0, 0))) ∧ Aside0 (w'.heap[gb782]? = some (.cells #[(.slice A1_0 l1_0.length c1_0), .int .i64 a1_1, .bool a1_2] 51 (0, 0))) ∧ Aside0 (Below w.heap.size w w'))
   case atStart => exact ⟨(0), zr, H', ⟨Nat.le_refl _⟩, ⟨mV_ HO_5.out⟩, ⟨mV_ HO_6.out⟩, ⟨mB_ BK781.out⟩, ⟨mB_ BK782.out⟩, ⟨zt GE781.out GE782.out⟩⟩
   case round =>
    clear H'
    try clear c1
    try clear p2
    try clear c7
    try clear c8
    try clear c10
    try clear c10b0
    try clear p2
    obtain ⟨x8_2, rfl, HA, HK2, HO_5, HO_6, BK781, BK782, HB⟩ := hrel
    cases gk with
    | zero => exact absurd HA.out (by simp [spec_l11Alike.l1])
    | succ k2 =>
     have H := HA.out
     clear HA
     simp only [spec_l11Alike.l1] at H
     by_cases c12 : x8_2 < (t786.length : Int)
     rotate_left
     ·rw [if_neg c12] at H
      have c12b0 : decide (x8_2 < (t786.length : Int)) = false := decide_eq_false c12
      clear c12
      have H' := aM H
      clear H
      obtain ⟨Ao24, co24, eo24⟩ := Kd.V_slice HO_6.out
      subst eo24
      go_wp2
      go_roundg k2
      case measure => have := HK1.out; have := HK2.out; omega
      case rel => exact ⟨(wrap64 (x7_1 + 1)), zr, H', ⟨by have := HK1.out; have := HK2.out; omega⟩, ⟨mV_ HO_5.out⟩, ⟨mV_ HO_6.out⟩, ⟨mB_ BK781.out⟩, ⟨mB_ BK782.out⟩, ⟨zt GE781.out GE782.out⟩⟩
     rw [if_pos c12] at H
     have c12b0 : decide (x8_2 < (t786.length : Int)) = true := decide_eq_true c12
     clear c12
     by_cases c13 : 0 ≤ x7_1
     rotate_left
     ·rw [if_neg c13] at H
      exact absurd H (by simp)
     rw [if_pos c13] at H
     have c13b0 : decide (0 ≤ x7_1) = true := decide_eq_true c13
     clear c13
     by_cases c14 : x7_1 < (t783.length : Int)
     rotate_left
     ·rw [if_neg c14] at H
      exact absurd H (by simp)
     rw [if_pos c14] at H
     have c14b0 : decide (x7_1 < (t783.length : Int)) = true := decide_eq_true c14
     clear c14
     by_cases c15 : 0 ≤ x8_2
     rotate_left
     ·rw [if_neg c15] at H
      exact absurd H (by simp)
     rw [if_pos c15] at H
     have c15b0 : decide (0 ≤ x8_2) = true := decide_eq_true c15
     clear c15
     replace H := Option.bind_eq_some_iff.mp H
     obtain ⟨t791, A160, H⟩ := H
     replace H : (if t791 = 0 then (some true) else (spec_l11Alike.l1 k2 t783 t786 x7_1 (wrap64 (x8_2 + 1)))) = some r := H
     have A16 := aM A160
     clear A160
     by_cases c17 : t791 = 0
     ·rw [if_pos c17] at H
      have c17b0 : (t791 == 0) = true := beq_iff_eq.mpr c17
      have c17b1 : (t791 != 0) = false := bne_eq_false_iff_eq.mpr c17
      clear c17
      obtain rfl := Option.some.inj H
      obtain ⟨Ao18, co18, eo18⟩ := Kd.V_slice HO_6.out
      subst eo18
      try go_wp2
      have n0_ := aM (Kd.V_drew HO_5.out)
      have n1_ := aM (Kd.V_drew HO_6.out)
      have n2_ := aM (blk_drew BK781.out)
      have n3_ := aM (blk_drew BK782.out)
      have n4_ := aM (below_drew1 HB.out)
      clear HO_5
      clear HO_6
      clear BK781
      clear BK782
      clear HB
      have HO_5 := n0_
      have HO_6 := n1_
      have BK781 := n2_
      have BK782 := n3_
      have HB := n4_
      clear n0_ n1_ n2_ n3_ n4_
      have p789 : 0 ≤ (x7_1 : Int) := of_decide_eq_true za
      have q789 : x7_1 < (t783.length : Int) := of_decide_eq_true za
      obtain ⟨ad789, A789_0, c789_0, e789, hx789_0, hl789_0, hi789_0⟩ := at_L2 (Kd.V_reads' HO_5.out).2.2 x7_1 p789 q789
      cases e789
      obtain ⟨ce789, hce789, hMe789, hcc789⟩ := Kd.V_get HO_5.out [] x7_1 p789 (by first | exact q789 | exact of_decide_eq_true za | (have e_ := (Kd.V_reads' HO_5.out).1; omega))
      obtain ⟨ua789_0, uc789_0, rfl, ul789_0, ge789_0⟩ := Kd.FK_slice_open hMe789
      have hv789_0 := hcc789 0 _ rfl
      rw [Nat.add_zero, show ((Kd.slice 59 k59)).sz = 1 from rfl, Nat.mul_one] at hv789_0
      replace hv789_0 := Option.some.inj (hv789_0.symm.trans hx789_0)
      injection hv789_0 with hva_ hvn_ hvc_
      rw [hva_] at ge789_0
      rw [hvc_] at ul789_0
      have HL789_0 := aM (show Kd.V k59 59 _ w.heap.size _ _ (rd_L2 t783 x7_1) from Kd.V_mk ul789_0 ge789_0)
      clear hva_ hvn_ hvc_ ge789_0 ul789_0
      clear hcc789 hce789
      have HR789_0 := aM hi789_0
      have HC789_0 := aM hl789_0
      clear hi789_0 hl789_0
      replace p789 := eq_true p789
      replace q789 := eq_true q789
      have p790 : 0 ≤ (x8_2 : Int) := of_decide_eq_true za
      have q790 : x8_2 < (t786.length : Int) := of_decide_eq_true za
      obtain ⟨ad790, A790_0, c790_0, e790, hx790_0, hl790_0, hi790_0⟩ := at_L2 (Kd.V_reads' HO_6.out).2.2 x8_2 p790 q790
      cases e790
      obtain ⟨ce790, hce790, hMe790, hcc790⟩ := Kd.V_get HO_6.out [] x8_2 p790 (by first | exact q790 | exact of_decide_eq_true za | (have e_ := (Kd.V_reads' HO_6.out).1; omega))
      obtain ⟨ua790_0, uc790_0, rfl, ul790_0, ge790_0⟩ := Kd.FK_slice_open hMe790
      have hv790_0 := hcc790 0 _ rfl
      rw [Nat.add_zero, show ((Kd.slice 59 k59)).sz = 1 from rfl, Nat.mul_one] at hv790_0
      replace hv790_0 := Option.some.inj (hv790_0.symm.trans hx790_0)
      injection hv790_0 with hva_ hvn_ hvc_
      rw [hva_] at ge790_0
      rw [hvc_] at ul790_0
      have HL790_0 := aM (show Kd.V k59 59 _ w.heap.size _ _ (rd_L2 t786 x8_2) from Kd.V_mk ul790_0 ge790_0)
      clear hva_ hvn_ hvc_ ge790_0 ul790_0
      clear hcc790 hce790
      have HR790_0 := aM hi790_0
      have HC790_0 := aM hl790_0
      clear hi790_0 hl790_0
      replace p790 := eq_true p790
      replace q790 := eq_true q790
      refine start_ (n := 10) (S := fun w' => w'.cell? (ad789.add (x7_1).toNat) = some (.slice A789_0 (rd_L2 t783 x7_1).length c789_0) ∧ w'.cell? (ad790.add (x8_2).toNat) = some (.slice A790_0 (rd_L2 t786 x8_2).length c790_0)) (ds := []) zA0 (by kernel_rfl) rfl rfl ⟨hx789_0, hx790_0⟩ (fun hHeld => ?_); refine with_tabW spec_l11Alike.tab8 spec_l11Alike.bits8 (fun HT_ HW_ => ?_)
      generalize wr.drew = w19 at HO_5 HO_6 BK781 BK782 HB HL789_0 HL790_0 HR789_0 HR790_0 hx789_0 hx790_0 hHeld ⊢
      refine zp 0 (some 25) ?_ zA1 rfl rfl (Or.inl ⟨by rfl, ?_⟩) ?_ ?_ ?_
      rotate_left
      ·intro w'
       go_simp
       with_reducible rfl
      rotate_left
      ·simp only [Act.put, xA, xB, xC, i64_w, i32_w]
       rfl
      refine zp 1 (some 26) ?_ zA2 rfl rfl (Or.inl ⟨by rfl, ?_⟩) ?_ ?_ ?_
      rotate_left
      ·intro w'
       go_simp
       with_reducible rfl
      rotate_left
      ·simp only [Act.put, xA, xB, xC, i64_w, i32_w]
       rfl
      refine zp 2 (some 27) ?_ zA3 rfl rfl (Or.inl ⟨by rfl, ?_⟩) ?_ ?_ ?_
      rotate_left
      ·intro w'
       go_simp
       with_reducible rfl
      rotate_left
      ·simp only [Act.put, xA, xB, xC, i64_w, i32_w]
       rfl
      refine zp 4 (some 29) ?_ zA4 rfl rfl (Or.inl ⟨by rfl, ?_⟩) ?_ ?_ ?_
      rotate_left
      ·intro w'
       go_simp
       with_reducible rfl
      rotate_left
      ·simp only [Act.put, xA, xB, xC, i64_w, i32_w]
       rfl
      refine zp 5 (some 30) ?_ zA5 rfl rfl (Or.inl ⟨by rfl, ?_⟩) ?_ ?_ ?_
      rotate_left
      ·intro w'
       go_simp
       with_reducible rfl
      rotate_left
      ·simp only [Act.put, xA, xB, xC, i64_w, i32_w]
       rfl
      refine zp 6 (some 31) ?_ zA6 rfl rfl (Or.inl ⟨by rfl, ?_⟩) ?_ ?_ ?_
      rotate_left
      ·intro w'
       go_simp
       with_reducible rfl
      rotate_left
      ·simp only [Act.put, xA, xB, xC, i64_w, i32_w]
       rfl
      refine zu 3 (some 28) ?_ zA7 rfl rfl (Or.inl ⟨by rfl, ?_⟩) hHeld ?_ ?_ ?_
      rotate_left
      ·rintro w' ⟨s0, s1⟩
       go_simp
       with_reducible rfl
      rotate_left
      ·simp only [Act.put, xA, xB, xC, i64_w, i32_w]
       rfl
      refine zu 7 (some 32) ?_ zA8 rfl rfl (Or.inl ⟨by rfl, ?_⟩) hHeld ?_ ?_ ?_
      rotate_left
      ·rintro w' ⟨s0, s1⟩
       go_simp
       with_reducible rfl
      rotate_left
      ·simp only [Act.put, xA, xB, xC, i64_w, i32_w]
       rfl
      refine one_ (i := 8) (N := some 33) zA9 rfl rfl (one_of HT_.out (by kernel_rfl)) (by decide) (fun K hK => ?_)
      refine goes_ Try.func111 (by kernel_rfl) rfl #[.slice A789_0 (rd_L2 t783 x7_1).length c789_0, .slice A790_0 (rd_L2 t786 x8_2).length c790_0] (by rfl) rfl rfl zm ?_
      with_reducible refine (spec_CompareShapes.calls k2 _ _ (rd_L2 t783 x7_1) _ _ (rd_L2 t786 x8_2) t791 _ ?side1 ?side2 ?side3 ?side4 A16.out).mono ?_
      (case side1 => repeat (first | exact (mQ_ HR789_0.out) | (with_reducible refine Kd.C_alloc ?_ _) | (with_reducible refine Kd.C_drewN ?_ _) | (with_reducible refine Kd.C_drew ?_)))
      (case side2 => exact HC789_0.out)
      (case side3 => repeat (first | exact (mQ_ HR790_0.out) | (with_reducible refine Kd.C_alloc ?_ _) | (with_reducible refine Kd.C_drewN ?_ _) | (with_reducible refine Kd.C_drew ?_)))
      (case side4 => exact HC790_0.out)
      rintro e w20 ⟨rfl, hb⟩
      have HS0_ := zk hb (hHeld.1)
      have HS1_ := zk hb (hHeld.2)
      refine ⟨_, rfl, ?_⟩
      have n0_ := aM (Kd.V_below (mV_ HO_5.out) hb)
      have n1_ := aM (Kd.V_below (mV_ HO_6.out) hb)
      have n2_ := aM (Kd.V_below (mV_ HL789_0.out) hb)
      have n3_ := aM (Kd.V_below (mV_ HL790_0.out) hb)
      have n4_ := aM (blk_below (g := gb781) (o := .cells #[.slice A0_0 l0_0.length c0_0, .int .i64 a0_1, .bool a0_2] 51 (0, 0)) (mB_ BK781.out) hb)
      have n5_ := aM (blk_below (g := gb782) (o := .cells #[.slice A1_0 l1_0.length c1_0, .int .i64 a1_1, .bool a1_2] 51 (0, 0)) (mB_ BK782.out) hb)
      have n6_ := aM (Kd.C_below (mQ_ HR789_0.out) hb)
      have n7_ := aM (Kd.C_below (mQ_ HR790_0.out) hb)
      have n8_ := aM (below_step (zt GE781.out GE782.out) hb)
      clear HO_5
      clear HO_6
      clear HL789_0
      clear HL790_0
      clear BK781
      clear BK782
      clear HR789_0
      clear HR790_0
      clear HB
      have HO_5 := n0_
      have HO_6 := n1_
      have HL789_0 := n2_
      have HL790_0 := n3_
      have BK781 := n4_
      have BK782 := n5_
      have HR789_0 := n6_
      have HR790_0 := n7_
      have HB := n8_
      clear n0_ n1_ n2_ n3_ n4_ n5_ n6_ n7_ n8_
      (try clear hb)
      (try clear hb2)
      (try clear hk)
      (try clear hi)
      refine hK.out _ _ ⟨HS0_, HS1_⟩ (fun hHeld => ?_)
      clear hK K
      refine norm_ (a' := ?_) ?_ ?_
      rotate_left
      ·show Act.put _ (some 33) _ = _
       simp only [Act.put, xA, xB, xC, i64_w, i32_w]
       rfl
      refine zp 9 (some 34) ?_ zA10 rfl rfl (Or.inl ⟨by rfl, ?_⟩) ?_ ?_ ?_
      rotate_left
      ·intro w'
       go_simp
       with_reducible rfl
      rotate_left
      ·simp only [Act.put, xA, xB, xC, i64_w, i32_w]
       rfl
      refine done_ (done_of HT_.out (by kernel_rfl)) ?_
      try go_wp2
      go_ret
      exact ⟨zw, zt GE781.out GE782.out⟩
     rw [if_neg c17] at H
     have c17b0 : (t791 == 0) = false := beq_eq_false_iff_ne.mpr c17
     have c17b1 : (t791 != 0) = true := bne_iff_ne.mpr c17
     have H' := aM H
     clear H
     obtain ⟨Ao21, co21, eo21⟩ := Kd.V_slice HO_6.out
     subst eo21
     try go_wp2
     have n0_ := aM (Kd.V_drew HO_5.out)
     have n1_ := aM (Kd.V_drew HO_6.out)
     have n2_ := aM (blk_drew BK781.out)
     have n3_ := aM (blk_drew BK782.out)
     have n4_ := aM (below_drew1 HB.out)
     clear HO_5
     clear HO_6
     clear BK781
     clear BK782
     clear HB
     have HO_5 := n0_
     have HO_6 := n1_
     have BK781 := n2_
     have BK782 := n3_
     have HB := n4_
     clear n0_ n1_ n2_ n3_ n4_
     have p789 : 0 ≤ (x7_1 : Int) := of_decide_eq_true za
     have q789 : x7_1 < (t783.length : Int) := of_decide_eq_true za
     obtain ⟨ad789, A789_0, c789_0, e789, hx789_0, hl789_0, hi789_0⟩ := at_L2 (Kd.V_reads' HO_5.out).2.2 x7_1 p789 q789
     cases e789
     obtain ⟨ce789, hce789, hMe789, hcc789⟩ := Kd.V_get HO_5.out [] x7_1 p789 (by first | exact q789 | exact of_decide_eq_true za | (have e_ := (Kd.V_reads' HO_5.out).1; omega))
     obtain ⟨ua789_0, uc789_0, rfl, ul789_0, ge789_0⟩ := Kd.FK_slice_open hMe789
     have hv789_0 := hcc789 0 _ rfl
     rw [Nat.add_zero, show ((Kd.slice 59 k59)).sz = 1 from rfl, Nat.mul_one] at hv789_0
     replace hv789_0 := Option.some.inj (hv789_0.symm.trans hx789_0)
     injection hv789_0 with hva_ hvn_ hvc_
     rw [hva_] at ge789_0
     rw [hvc_] at ul789_0
     have HL789_0 := aM (show Kd.V k59 59 _ w.heap.size _ _ (rd_L2 t783 x7_1) from Kd.V_mk ul789_0 ge789_0)
     clear hva_ hvn_ hvc_ ge789_0 ul789_0
     clear hcc789 hce789
     have HR789_0 := aM hi789_0
     have HC789_0 := aM hl789_0
     clear hi789_0 hl789_0
     replace p789 := eq_true p789
     replace q789 := eq_true q789
     have p790 : 0 ≤ (x8_2 : Int) := of_decide_eq_true za
     have q790 : x8_2 < (t786.length : Int) := of_decide_eq_true za
     obtain ⟨ad790, A790_0, c790_0, e790, hx790_0, hl790_0, hi790_0⟩ := at_L2 (Kd.V_reads' HO_6.out).2.2 x8_2 p790 q790
     cases e790
     obtain ⟨ce790, hce790, hMe790, hcc790⟩ := Kd.V_get HO_6.out [] x8_2 p790 (by first | exact q790 | exact of_decide_eq_true za | (have e_ := (Kd.V_reads' HO_6.out).1; omega))
     obtain ⟨ua790_0, uc790_0, rfl, ul790_0, ge790_0⟩ := Kd.FK_slice_open hMe790
     have hv790_0 := hcc790 0 _ rfl
     rw [Nat.add_zero, show ((Kd.slice 59 k59)).sz = 1 from rfl, Nat.mul_one] at hv790_0
     replace hv790_0 := Option.some.inj (hv790_0.symm.trans hx790_0)
     injection hv790_0 with hva_ hvn_ hvc_
     rw [hva_] at ge790_0
     rw [hvc_] at ul790_0
     have HL790_0 := aM (show Kd.V k59 59 _ w.heap.size _ _ (rd_L2 t786 x8_2) from Kd.V_mk ul790_0 ge790_0)
     clear hva_ hvn_ hvc_ ge790_0 ul790_0
     clear hcc790 hce790
     have HR790_0 := aM hi790_0
     have HC790_0 := aM hl790_0
     clear hi790_0 hl790_0
     replace p790 := eq_true p790
     replace q790 := eq_true q790
     refine start_ (n := 10) (S := fun w' => w'.cell? (ad789.add (x7_1).toNat) = some (.slice A789_0 (rd_L2 t783 x7_1).length c789_0) ∧ w'.cell? (ad790.add (x8_2).toNat) = some (.slice A790_0 (rd_L2 t786 x8_2).length c790_0)) (ds := []) zA0 (by kernel_rfl) rfl rfl ⟨hx789_0, hx790_0⟩ (fun hHeld => ?_); refine with_tabW spec_l11Alike.tab8 spec_l11Alike.bits8 (fun HT_ HW_ => ?_)
     generalize wr.drew = w22 at HO_5 HO_6 BK781 BK782 HB HL789_0 HL790_0 HR789_0 HR790_0 hx789_0 hx790_0 hHeld ⊢
     refine zp 0 (some 25) ?_ zA1 rfl rfl (Or.inl ⟨by rfl, ?_⟩) ?_ ?_ ?_
     rotate_left
     ·intro w'
      go_simp
      with_reducible rfl
     rotate_left
     ·simp only [Act.put, xA, xB, xC, i64_w, i32_w]
      rfl
     refine zp 1 (some 26) ?_ zA2 rfl rfl (Or.inl ⟨by rfl, ?_⟩) ?_ ?_ ?_
     rotate_left
     ·intro w'
      go_simp
      with_reducible rfl
     rotate_left
     ·simp only [Act.put, xA, xB, xC, i64_w, i32_w]
      rfl
     refine zp 2 (some 27) ?_ zA3 rfl rfl (Or.inl ⟨by rfl, ?_⟩) ?_ ?_ ?_
     rotate_left
     ·intro w'
      go_simp
      with_reducible rfl
     rotate_left
     ·simp only [Act.put, xA, xB, xC, i64_w, i32_w]
      rfl
     refine zp 4 (some 29) ?_ zA4 rfl rfl (Or.inl ⟨by rfl, ?_⟩) ?_ ?_ ?_
     rotate_left
     ·intro w'
      go_simp
      with_reducible rfl
     rotate_left
     ·simp only [Act.put, xA, xB, xC, i64_w, i32_w]
      rfl
     refine zp 5 (some 30) ?_ zA5 rfl rfl (Or.inl ⟨by rfl, ?_⟩) ?_ ?_ ?_
     rotate_left
     ·intro w'
      go_simp
      with_reducible rfl
     rotate_left
     ·simp only [Act.put, xA, xB, xC, i64_w, i32_w]
      rfl
     refine zp 6 (some 31) ?_ zA6 rfl rfl (Or.inl ⟨by rfl, ?_⟩) ?_ ?_ ?_
     rotate_left
     ·intro w'
      go_simp
      with_reducible rfl
     rotate_left
     ·simp only [Act.put, xA, xB, xC, i64_w, i32_w]
      rfl
     refine zu 3 (some 28) ?_ zA7 rfl rfl (Or.inl ⟨by rfl, ?_⟩) hHeld ?_ ?_ ?_
     rotate_left
     ·rintro w' ⟨s0, s1⟩
      go_simp
      with_reducible rfl
     rotate_left
     ·simp only [Act.put, xA, xB, xC, i64_w, i32_w]
      rfl
     refine zu 7 (some 32) ?_ zA8 rfl rfl (Or.inl ⟨by rfl, ?_⟩) hHeld ?_ ?_ ?_
     rotate_left
     ·rintro w' ⟨s0, s1⟩
      go_simp
      with_reducible rfl
     rotate_left
     ·simp only [Act.put, xA, xB, xC, i64_w, i32_w]
      rfl
     refine one_ (i := 8) (N := some 33) zA9 rfl rfl (one_of HT_.out (by kernel_rfl)) (by decide) (fun K hK => ?_)
     refine goes_ Try.func111 (by kernel_rfl) rfl #[.slice A789_0 (rd_L2 t783 x7_1).length c789_0, .slice A790_0 (rd_L2 t786 x8_2).length c790_0] (by rfl) rfl rfl zm ?_
     with_reducible refine (spec_CompareShapes.calls k2 _ _ (rd_L2 t783 x7_1) _ _ (rd_L2 t786 x8_2) t791 _ ?side1 ?side2 ?side3 ?side4 A16.out).mono ?_
     (case side1 => repeat (first | exact (mQ_ HR789_0.out) | (with_reducible refine Kd.C_alloc ?_ _) | (with_reducible refine Kd.C_drewN ?_ _) | (with_reducible refine Kd.C_drew ?_)))
     (case side2 => exact HC789_0.out)
     (case side3 => repeat (first | exact (mQ_ HR790_0.out) | (with_reducible refine Kd.C_alloc ?_ _) | (with_reducible refine Kd.C_drewN ?_ _) | (with_reducible refine Kd.C_drew ?_)))
     (case side4 => exact HC790_0.out)
     rintro e w23 ⟨rfl, hb⟩
     have HS0_ := zk hb (hHeld.1)
     have HS1_ := zk hb (hHeld.2)
     refine ⟨_, rfl, ?_⟩
     have n0_ := aM (Kd.V_below (mV_ HO_5.out) hb)
     have n1_ := aM (Kd.V_below (mV_ HO_6.out) hb)
     have n2_ := aM (Kd.V_below (mV_ HL789_0.out) hb)
     have n3_ := aM (Kd.V_below (mV_ HL790_0.out) hb)
     have n4_ := aM (blk_below (g := gb781) (o := .cells #[.slice A0_0 l0_0.length c0_0, .int .i64 a0_1, .bool a0_2] 51 (0, 0)) (mB_ BK781.out) hb)
     have n5_ := aM (blk_below (g := gb782) (o := .cells #[.slice A1_0 l1_0.length c1_0, .int .i64 a1_1, .bool a1_2] 51 (0, 0)) (mB_ BK782.out) hb)
     have n6_ := aM (Kd.C_below (mQ_ HR789_0.out) hb)
     have n7_ := aM (Kd.C_below (mQ_ HR790_0.out) hb)
     have n8_ := aM (below_step (zt GE781.out GE782.out) hb)
     clear HO_5
     clear HO_6
     clear HL789_0
     clear HL790_0
     clear BK781
     clear BK782
     clear HR789_0
     clear HR790_0
     clear HB
     have HO_5 := n0_
     have HO_6 := n1_
     have HL789_0 := n2_
     have HL790_0 := n3_
     have BK781 := n4_
     have BK782 := n5_
     have HR789_0 := n6_
     have HR790_0 := n7_
     have HB := n8_
     clear n0_ n1_ n2_ n3_ n4_ n5_ n6_ n7_ n8_
     (try clear hb)
     (try clear hb2)
     (try clear hk)
     (try clear hi)
     refine hK.out _ _ ⟨HS0_, HS1_⟩ (fun hHeld => ?_)
     clear hK K
     refine norm_ (a' := ?_) ?_ ?_
     rotate_left
     ·show Act.put _ (some 33) _ = _
      simp only [Act.put, xA, xB, xC, i64_w, i32_w]
      rfl
     refine zp 9 (some 34) ?_ zA10 rfl rfl (Or.inl ⟨by rfl, ?_⟩) ?_ ?_ ?_
     rotate_left
     ·intro w'
      go_simp
      with_reducible rfl
     rotate_left
     ·simp only [Act.put, xA, xB, xC, i64_w, i32_w]
      rfl
     refine done_ (done_of HT_.out (by kernel_rfl)) ?_
     try go_wp2
     go_roundg k2
     case measure => have := HK1.out; have := HK2.out; omega
     case rel => exact ⟨(wrap64 (x8_2 + 1)), zr, H', ⟨by have := HK1.out; have := HK2.out; omega⟩, ⟨mV_ HO_5.out⟩, ⟨mV_ HO_6.out⟩, ⟨mB_ BK781.out⟩, ⟨mB_ BK782.out⟩, ⟨zt GE781.out GE782.out⟩⟩
def spec_AreAlike.f (k : Nat) (l0_0 : List (S59)) (a0_1 : Int) (a0_2 : Bool) (l1_0 : List (S59)) (a1_1 : Int) (a1_2 : Bool) : Option (Bool) := (spec_IsPiece.f k l0_0 a0_1 a0_2).bind fun t794 => (if t794 = true then ((spec_IsPiece.f k l1_0 a1_1 a1_2).bind fun t795 => (if t795 = true then ((spec_l11Alike.f k l0_0 a0_1 a0_2 l1_0 a1_1 a1_2).bind fun t796 => (some t796)) else (some false))) else (some false))
theorem spec_AreAlike.calls (k : Nat) (A0_0 : Option Addr) (c0_0 : Nat) (l0_0 : List (S59)) (a0_1 : Int) (a0_2 : Bool) (A1_0 : Option Addr) (c1_0 : Nat) (l1_0 : List (S59)) (a1_1 : Int) (a1_2 : Bool) (r : Bool) (w : World) (hr0_0 : Kd.C k59 w A0_0 l0_0.length l0_0) (hc0_0 : l0_0.length ≤ c0_0) (hr1_0 : Kd.C k59 w A1_0 l1_0.length l1_0) (hc1_0 : l1_0.length ≤ c1_0) (h : spec_AreAlike.f k l0_0 a0_1 a0_2 l1_0 a1_1 a1_2 = some r) :
  Calls Try.prog 33 #[.agg #[.slice A0_0 l0_0.length c0_0, .int .i64 a0_1, .bool a0_2], .agg #[.slice A1_0 l1_0.length c1_0, .int .i64 a1_1, .bool a1_2]] w fun e w' => e = .returned (.bool r) ∧ Below w.heap.size w w' := by
 have hu51 := Try.underlying51
 have HR0_0 := aM hr0_0
 have HC0_0 := aM hc0_0
 clear hr0_0 hc0_0
 have HR1_0 := aM hr1_0
 have HC1_0 := aM hc1_0
 clear hr1_0 hc1_0
 have HB := aM (Below.refl w.heap.size w)
 have H : ((spec_IsPiece.f k l0_0 a0_1 a0_2).bind fun t794 => (if t794 = true then ((spec_IsPiece.f k l1_0 a1_1 a1_2).bind fun t795 => (if t795 = true then ((spec_l11Alike.f k l0_0 a0_1 a0_2 l1_0 a1_1 a1_2).bind fun t796 => (some t796)) else (some false))) else (some false))) = some r := h
 clear h
 replace H := Option.bind_eq_some_iff.mp H
 obtain ⟨t794, A30, H⟩ := H
 replace H : (if t794 = true then ((spec_IsPiece.f k l1_0 a1_1 a1_2).bind fun t795 => (if t795 = true then ((spec_l11Alike.f k l0_0 a0_1 a0_2 l1_0 a1_1 a1_2).bind fun t796 => (some t796)) else (some false))) else (some false)) = some r := H
 have A3 := aM A30
 clear A30
 by_cases c4 : t794 = true
 rotate_left
 ·replace c4 := Bool.eq_false_iff.mpr c4
  subst c4
  have H1 : (some false) = some r := by rw [if_neg (show ¬ (false = true) by decide)] at H; exact H
  clear H
  have H := H1
  clear H1
  obtain rfl := Option.some.inj H
  go_enter Try.func33, Try.ntmps33
  go_wp2_with (first | ((with_reducible refine gate_dst (N := 2) rfl ?_); refine zx 2 #[.slice A0_0 l0_0.length c0_0, .int .i64 a0_1, .bool a0_2] 51 ?_; intro gb792 hg w25 hbox hb; have n0_ := aM (below_step zb hb); have n1_ := aM (hbox); have n2_ := aM ((ze : w.heap.size ≤ gb792)); have n3_ := aM ((ze : w.heap.size ≤ gb792)); clear HB; have HB := n0_; have BK792 := n1_; have GW792 := n2_; have GE792 := n3_; clear n0_ n1_ n2_ n3_; clear hb hbox hg) | ((with_reducible refine gate_dst (N := 3) rfl ?_); refine zx 3 #[.slice A1_0 l1_0.length c1_0, .int .i64 a1_1, .bool a1_2] 51 ?_; intro gb793 hg w26 hbox hb; have n0_ := aM (blk_below (g := gb792) (o := .cells #[.slice A0_0 l0_0.length c0_0, .int .i64 a0_1, .bool a0_2] 51 (0, 0)) (mB_ BK792.out) hb); have n1_ := aM (below_step (zs GE792.out) hb); have n2_ := aM (hbox); have n3_ := aM ((zf GE792.out : w.heap.size ≤ gb793)); have n4_ := aM ((zf GE792.out : w.heap.size ≤ gb793)); have n5_ := aM ((zl BK792.out : gb792 ≠ gb793)); have n6_ := aM ((zn BK792.out : gb793 ≠ gb792)); clear BK792 HB; have BK792 := n0_; have HB := n1_; have BK793 := n2_; have GW793 := n3_; have GE793 := n4_; have NB792_793 := n5_; have NB793_792 := n6_; clear n0_ n1_ n2_ n3_ n4_ n5_ n6_ hb hbox hg; have hnb27 := NB792_793.out; have hnc27 := NB793_792.out; have hcz28_0 : w26.cell? ⟨gb792, 0, none⟩ = some (.slice A0_0 l0_0.length c0_0) := (blk_cell BK792.out 0).trans rfl; have hcz28_1 : w26.cell? ⟨gb792, 1, none⟩ = some (.int .i64 a0_1) := (blk_cell BK792.out 1).trans rfl; have hcz28_2 : w26.cell? ⟨gb792, 2, none⟩ = some (.bool a0_2) := (blk_cell BK792.out 2).trans rfl; have hfz28_0 := blk_frozen BK792.out 0; have hfz28_1 := blk_frozen BK792.out 1; have hfz28_2 := blk_frozen BK792.out 2) | ((with_reducible refine gate_callee (f := 73) rfl ?_); refine goesL_ (some 6) rfl rfl Try.func73 (by kernel_rfl) rfl #[.agg #[.slice A0_0 l0_0.length c0_0, .int .i64 a0_1, .bool a0_2]] rfl zm ?_; (with_reducible refine (spec_IsPiece.calls k _ _ l0_0 a0_1 a0_2 false _ ?side1 ?side2 A3.out).mono ?_); (case side1 => repeat (first | exact (Kd.C_below HR0_0.out HB.out) | (with_reducible refine Kd.C_alloc ?_ _) | (with_reducible refine Kd.C_drewN ?_ _) | (with_reducible refine Kd.C_drew ?_))); (case side2 => exact HC0_0.out); rintro e w29 ⟨rfl, hb⟩; refine ⟨_, rfl, ?_⟩; have n0_ := aM (blk_below (g := gb792) (o := .cells #[.slice A0_0 l0_0.length c0_0, .int .i64 a0_1, .bool a0_2] 51 (0, 0)) (mB_ BK792.out) hb); have n1_ := aM (blk_below (g := gb793) (o := .cells #[.slice A1_0 l1_0.length c1_0, .int .i64 a1_1, .bool a1_2] 51 (0, 0)) (mB_ BK793.out) hb); have n2_ := aM (below_step (zt GE792.out GE793.out) hb); clear BK792 BK793 HB; have BK792 := n0_; have BK793 := n1_; have HB := n2_; clear n0_ n1_ n2_; (try clear hb); (try clear hb2); (try clear hk); (try clear hi)))
  go_ret
  exact ⟨zw, zt GE792.out GE793.out⟩
 subst c4
 have H1 : ((spec_IsPiece.f k l1_0 a1_1 a1_2).bind fun t795 => (if t795 = true then ((spec_l11Alike.f k l0_0 a0_1 a0_2 l1_0 a1_1 a1_2).bind fun t796 => (some t796)) else (some false))) = some r := by rw [if_pos rfl] at H; exact H
 clear H
 have H := H1
 clear H1
 replace H := Option.bind_eq_some_iff.mp H
 obtain ⟨t795, A50, H⟩ := H
 replace H : (if t795 = true then ((spec_l11Alike.f k l0_0 a0_1 a0_2 l1_0 a1_1 a1_2).bind fun t796 => (some t796)) else (some false)) = some r := H
 have A5 := aM A50
 clear A50
 by_cases c6 : t795 = true
 rotate_left
 ·replace c6 := Bool.eq_false_iff.mpr c6
  subst c6
  have H1 : (some false) = some r := by rw [if_neg (show ¬ (false = true) by decide)] at H; exact H
  clear H
  have H := H1
  clear H1
  obtain rfl := Option.some.inj H
  go_enter Try.func33, Try.ntmps33
  go_wp2_with (first | ((with_reducible refine gate_dst (N := 2) rfl ?_); refine zx 2 #[.slice A0_0 l0_0.length c0_0, .int .i64 a0_1, .bool a0_2] 51 ?_; intro gb792 hg w18 hbox hb; have n0_ := aM (below_step zb hb); have n1_ := aM (hbox); have n2_ := aM ((ze : w.heap.size ≤ gb792)); have n3_ := aM ((ze : w.heap.size ≤ gb792)); clear HB; have HB := n0_; have BK792 := n1_; have GW792 := n2_; have GE792 := n3_; clear n0_ n1_ n2_ n3_; clear hb hbox hg) | ((with_reducible refine gate_dst (N := 3) rfl ?_); refine zx 3 #[.slice A1_0 l1_0.length c1_0, .int .i64 a1_1, .bool a1_2] 51 ?_; intro gb793 hg w19 hbox hb; have n0_ := aM (blk_below (g := gb792) (o := .cells #[.slice A0_0 l0_0.length c0_0, .int .i64 a0_1, .bool a0_2] 51 (0, 0)) (mB_ BK792.out) hb); have n1_ := aM (below_step (zs GE792.out) hb); have n2_ := aM (hbox); have n3_ := aM ((zf GE792.out : w.heap.size ≤ gb793)); have n4_ := aM ((zf GE792.out : w.heap.size ≤ gb793)); have n5_ := aM ((zl BK792.out : gb792 ≠ gb793)); have n6_ := aM ((zn BK792.out : gb793 ≠ gb792)); clear BK792 HB; have BK792 := n0_; have HB := n1_; have BK793 := n2_; have GW793 := n3_; have GE793 := n4_; have NB792_793 := n5_; have NB793_792 := n6_; clear n0_ n1_ n2_ n3_ n4_ n5_ n6_ hb hbox hg; have hnb20 := NB792_793.out; have hnc20 := NB793_792.out; have hcz21_0 : w19.cell? ⟨gb792, 0, none⟩ = some (.slice A0_0 l0_0.length c0_0) := (blk_cell BK792.out 0).trans rfl; have hcz21_1 : w19.cell? ⟨gb792, 1, none⟩ = some (.int .i64 a0_1) := (blk_cell BK792.out 1).trans rfl; have hcz21_2 : w19.cell? ⟨gb792, 2, none⟩ = some (.bool a0_2) := (blk_cell BK792.out 2).trans rfl; have hfz21_0 := blk_frozen BK792.out 0; have hfz21_1 := blk_frozen BK792.out 1; have hfz21_2 := blk_frozen BK792.out 2) | ((with_reducible refine gate_callee (f := 73) rfl ?_); refine goesL_ (some 6) rfl rfl Try.func73 (by kernel_rfl) rfl #[.agg #[.slice A0_0 l0_0.length c0_0, .int .i64 a0_1, .bool a0_2]] rfl zm ?_; (with_reducible refine (spec_IsPiece.calls k _ _ l0_0 a0_1 a0_2 true _ ?side1 ?side2 A3.out).mono ?_); (case side1 => repeat (first | exact (Kd.C_below HR0_0.out HB.out) | (with_reducible refine Kd.C_alloc ?_ _) | (with_reducible refine Kd.C_drewN ?_ _) | (with_reducible refine Kd.C_drew ?_))); (case side2 => exact HC0_0.out); rintro e w22 ⟨rfl, hb⟩; refine ⟨_, rfl, ?_⟩; have n0_ := aM (blk_below (g := gb792) (o := .cells #[.slice A0_0 l0_0.length c0_0, .int .i64 a0_1, .bool a0_2] 51 (0, 0)) (mB_ BK792.out) hb); have n1_ := aM (blk_below (g := gb793) (o := .cells #[.slice A1_0 l1_0.length c1_0, .int .i64 a1_1, .bool a1_2] 51 (0, 0)) (mB_ BK793.out) hb); have n2_ := aM (below_step (zt GE792.out GE793.out) hb); clear BK792 BK793 HB; have BK792 := n0_; have BK793 := n1_; have HB := n2_; clear n0_ n1_ n2_; (try clear hb); (try clear hb2); (try clear hk); (try clear hi); have hcz23_0 : w22.cell? ⟨gb793, 0, none⟩ = some (.slice A1_0 l1_0.length c1_0) := (blk_cell BK793.out 0).trans rfl; have hcz23_1 : w22.cell? ⟨gb793, 1, none⟩ = some (.int .i64 a1_1) := (blk_cell BK793.out 1).trans rfl; have hcz23_2 : w22.cell? ⟨gb793, 2, none⟩ = some (.bool a1_2) := (blk_cell BK793.out 2).trans rfl; have hfz23_0 := blk_frozen BK793.out 0; have hfz23_1 := blk_frozen BK793.out 1; have hfz23_2 := blk_frozen BK793.out 2) | (go_at_call 73; (with_reducible refine (spec_IsPiece.calls k _ _ l1_0 a1_1 a1_2 false _ ?side1 ?side2 A5.out).mono ?_); (case side1 => repeat (first | exact (Kd.C_below HR1_0.out HB.out) | (with_reducible refine Kd.C_alloc ?_ _) | (with_reducible refine Kd.C_drewN ?_ _) | (with_reducible refine Kd.C_drew ?_))); (case side2 => exact HC1_0.out); rintro e w24 ⟨rfl, hb⟩; have n0_ := aM (blk_below (g := gb792) (o := .cells #[.slice A0_0 l0_0.length c0_0, .int .i64 a0_1, .bool a0_2] 51 (0, 0)) (mB_ BK792.out) hb); have n1_ := aM (blk_below (g := gb793) (o := .cells #[.slice A1_0 l1_0.length c1_0, .int .i64 a1_1, .bool a1_2] 51 (0, 0)) (mB_ BK793.out) hb); have n2_ := aM (below_step (zt GE792.out GE793.out) hb); clear BK792 BK793 HB; have BK792 := n0_; have BK793 := n1_; have HB := n2_; clear n0_ n1_ n2_; (try clear hb); (try clear hb2); (try clear hk); (try clear hi)))
  go_ret
  exact ⟨zw, zt GE792.out GE793.out⟩
 subst c6
 have H1 : ((spec_l11Alike.f k l0_0 a0_1 a0_2 l1_0 a1_1 a1_2).bind fun t796 => (some t796)) = some r := by rw [if_pos rfl] at H; exact H
 clear H
 have H := H1
 clear H1
 replace H := Option.bind_eq_some_iff.mp H
 obtain ⟨t796, A70, H⟩ := H
 replace H : (some t796) = some r := H
 have A7 := aM A70
 clear A70
 obtain rfl := Option.some.inj H
 go_enter Try.func33, Try.ntmps33
 go_wp2_with (first | ((with_reducible refine gate_dst (N := 2) rfl ?_); refine zx 2 #[.slice A0_0 l0_0.length c0_0, .int .i64 a0_1, .bool a0_2] 51 ?_; intro gb792 hg w8 hbox hb; have n0_ := aM (below_step zb hb); have n1_ := aM (hbox); have n2_ := aM ((ze : w.heap.size ≤ gb792)); have n3_ := aM ((ze : w.heap.size ≤ gb792)); clear HB; have HB := n0_; have BK792 := n1_; have GW792 := n2_; have GE792 := n3_; clear n0_ n1_ n2_ n3_; clear hb hbox hg) | ((with_reducible refine gate_dst (N := 3) rfl ?_); refine zx 3 #[.slice A1_0 l1_0.length c1_0, .int .i64 a1_1, .bool a1_2] 51 ?_; intro gb793 hg w9 hbox hb; have n0_ := aM (blk_below (g := gb792) (o := .cells #[.slice A0_0 l0_0.length c0_0, .int .i64 a0_1, .bool a0_2] 51 (0, 0)) (mB_ BK792.out) hb); have n1_ := aM (below_step (zs GE792.out) hb); have n2_ := aM (hbox); have n3_ := aM ((zf GE792.out : w.heap.size ≤ gb793)); have n4_ := aM ((zf GE792.out : w.heap.size ≤ gb793)); have n5_ := aM ((zl BK792.out : gb792 ≠ gb793)); have n6_ := aM ((zn BK792.out : gb793 ≠ gb792)); clear BK792 HB; have BK792 := n0_; have HB := n1_; have BK793 := n2_; have GW793 := n3_; have GE793 := n4_; have NB792_793 := n5_; have NB793_792 := n6_; clear n0_ n1_ n2_ n3_ n4_ n5_ n6_ hb hbox hg; have hnb10 := NB792_793.out; have hnc10 := NB793_792.out; have hcz11_0 : w9.cell? ⟨gb792, 0, none⟩ = some (.slice A0_0 l0_0.length c0_0) := (blk_cell BK792.out 0).trans rfl; have hcz11_1 : w9.cell? ⟨gb792, 1, none⟩ = some (.int .i64 a0_1) := (blk_cell BK792.out 1).trans rfl; have hcz11_2 : w9.cell? ⟨gb792, 2, none⟩ = some (.bool a0_2) := (blk_cell BK792.out 2).trans rfl; have hfz11_0 := blk_frozen BK792.out 0; have hfz11_1 := blk_frozen BK792.out 1; have hfz11_2 := blk_frozen BK792.out 2) | ((with_reducible refine gate_callee (f := 73) rfl ?_); refine goesL_ (some 6) rfl rfl Try.func73 (by kernel_rfl) rfl #[.agg #[.slice A0_0 l0_0.length c0_0, .int .i64 a0_1, .bool a0_2]] rfl zm ?_; (with_reducible refine (spec_IsPiece.calls k _ _ l0_0 a0_1 a0_2 true _ ?side1 ?side2 A3.out).mono ?_); (case side1 => repeat (first | exact (Kd.C_below HR0_0.out HB.out) | (with_reducible refine Kd.C_alloc ?_ _) | (with_reducible refine Kd.C_drewN ?_ _) | (with_reducible refine Kd.C_drew ?_))); (case side2 => exact HC0_0.out); rintro e w12 ⟨rfl, hb⟩; refine ⟨_, rfl, ?_⟩; have n0_ := aM (blk_below (g := gb792) (o := .cells #[.slice A0_0 l0_0.length c0_0, .int .i64 a0_1, .bool a0_2] 51 (0, 0)) (mB_ BK792.out) hb); have n1_ := aM (blk_below (g := gb793) (o := .cells #[.slice A1_0 l1_0.length c1_0, .int .i64 a1_1, .bool a1_2] 51 (0, 0)) (mB_ BK793.out) hb); have n2_ := aM (below_step (zt GE792.out GE793.out) hb); clear BK792 BK793 HB; have BK792 := n0_; have BK793 := n1_; have HB := n2_; clear n0_ n1_ n2_; (try clear hb); (try clear hb2); (try clear hk); (try clear hi); have hcz13_0 : w12.cell? ⟨gb793, 0, none⟩ = some (.slice A1_0 l1_0.length c1_0) := (blk_cell BK793.out 0).trans rfl; have hcz13_1 : w12.cell? ⟨gb793, 1, none⟩ = some (.int .i64 a1_1) := (blk_cell BK793.out 1).trans rfl; have hcz13_2 : w12.cell? ⟨gb793, 2, none⟩ = some (.bool a1_2) := (blk_cell BK793.out 2).trans rfl; have hfz13_0 := blk_frozen BK793.out 0; have hfz13_1 := blk_frozen BK793.out 1; have hfz13_2 := blk_frozen BK793.out 2) | (go_at_call 73; (with_reducible refine (spec_IsPiece.calls k _ _ l1_0 a1_1 a1_2 true _ ?side1 ?side2 A5.out).mono ?_); (case side1 => repeat (first | exact (Kd.C_below HR1_0.out HB.out) | (with_reducible refine Kd.C_alloc ?_ _) | (with_reducible refine Kd.C_drewN ?_ _) | (with_reducible refine Kd.C_drew ?_))); (case side2 => exact HC1_0.out); rintro e w14 ⟨rfl, hb⟩; have n0_ := aM (blk_below (g := gb792) (o := .cells #[.slice A0_0 l0_0.length c0_0, .int .i64 a0_1, .bool a0_2] 51 (0, 0)) (mB_ BK792.out) hb); have n1_ := aM (blk_below (g := gb793) (o := .cells #[.slice A1_0 l1_0.length c1_0, .int .i64 a1_1, .bool a1_2] 51 (0, 0)) (mB_ BK793.out) hb); have n2_ := aM (below_step (zt GE792.out GE793.out) hb); clear BK792 BK793 HB; have BK792 := n0_; have BK793 := n1_; have HB := n2_; clear n0_ n1_ n2_; (try clear hb); (try clear hb2); (try clear hk); (try clear hi); have hcz15_0 : w14.cell? ⟨gb792, 0, none⟩ = some (.slice A0_0 l0_0.length c0_0) := (blk_cell BK792.out 0).trans rfl; have hcz15_1 : w14.cell? ⟨gb792, 1, none⟩ = some (.int .i64 a0_1) := (blk_cell BK792.out 1).trans rfl; have hcz15_2 : w14.cell? ⟨gb792, 2, none⟩ = some (.bool a0_2) := (blk_cell BK792.out 2).trans rfl; have hfz15_0 := blk_frozen BK792.out 0; have hfz15_1 := blk_frozen BK792.out 1; have hfz15_2 := blk_frozen BK792.out 2; have hcz16_0 : w14.cell? ⟨gb793, 0, none⟩ = some (.slice A1_0 l1_0.length c1_0) := (blk_cell BK793.out 0).trans rfl; have hcz16_1 : w14.cell? ⟨gb793, 1, none⟩ = some (.int .i64 a1_1) := (blk_cell BK793.out 1).trans rfl; have hcz16_2 : w14.cell? ⟨gb793, 2, none⟩ = some (.bool a1_2) := (blk_cell BK793.out 2).trans rfl; have hfz16_0 := blk_frozen BK793.out 0; have hfz16_1 := blk_frozen BK793.out 1; have hfz16_2 := blk_frozen BK793.out 2) | (go_at_call 74; (with_reducible refine (spec_l11Alike.calls k _ _ l0_0 a0_1 a0_2 _ _ l1_0 a1_1 a1_2 t796 _ ?side1 ?side2 ?side3 ?side4 A7.out).mono ?_); (case side1 => repeat (first | exact (Kd.C_below HR0_0.out HB.out) | (with_reducible refine Kd.C_alloc ?_ _) | (with_reducible refine Kd.C_drewN ?_ _) | (with_reducible refine Kd.C_drew ?_))); (case side2 => exact HC0_0.out); (case side3 => repeat (first | exact (Kd.C_below HR1_0.out HB.out) | (with_reducible refine Kd.C_alloc ?_ _) | (with_reducible refine Kd.C_drewN ?_ _) | (with_reducible refine Kd.C_drew ?_))); (case side4 => exact HC1_0.out); rintro e w17 ⟨rfl, hb⟩; have n0_ := aM (blk_below (g := gb792) (o := .cells #[.slice A0_0 l0_0.length c0_0, .int .i64 a0_1, .bool a0_2] 51 (0, 0)) (mB_ BK792.out) hb); have n1_ := aM (blk_below (g := gb793) (o := .cells #[.slice A1_0 l1_0.length c1_0, .int .i64 a1_1, .bool a1_2] 51 (0, 0)) (mB_ BK793.out) hb); have n2_ := aM (below_step (zt GE792.out GE793.out) hb); clear BK792 BK793 HB; have BK792 := n0_; have BK793 := n1_; have HB := n2_; clear n0_ n1_ n2_; (try clear hb); (try clear hb2); (try clear hk); (try clear hi)))
 go_ret
 exact ⟨zw, zt GE792.out GE793.out⟩
def fL (p : List S59 → Bool) : List (List S59) → Int → Int
  | [], _ => -1
  | a :: r, i => if p a then i else fL p r (i + 1)
theorem fL_any (p : List S59 → Bool) : ∀ (l : List (List S59)) (i : Int), 0 ≤ i → decide (0 ≤ fL p l i) = l.any p
  | [], i, h => by simp [fL]
  | a :: r, i, h => by
    unfold fL
    cases hp : p a with
    | true => simp [hp, h]
    | false => simp [hp, fL_any p r (i + 1) (by omega)]
theorem fL_drop (p : List S59 → Bool) (l : List (List S59)) (j : Nat) (hj : j < l.length) : fL p (l.drop j) (j : Int) = if p l[j] = true then (j : Int) else fL p (l.drop (j + 1)) ((j + 1 : Nat) : Int) := by
  rw [← List.getElem_cons_drop hj, fL]
  rfl
theorem at_LG {w : World} {A : Option Addr} {n : Nat} {xs : List (List S59)} (h : Kd.C (Kd.slice 59 k59) w A n xs) (i : Nat) (h1 : i < n) (hx : i < xs.length) : ∃ ad A0 c0, A = some ad ∧ w.cell? (ad.add i) = some (.slice A0 xs[i].length c0) ∧ xs[i].length ≤ c0 ∧ k59.C w A0 xs[i].length xs[i] := by
  obtain ⟨ad, c, e, _, hK, hc0⟩ := Kd.C_get h ([] : List S59) (i : Int) (by omega) (by omega)
  have e0 : xs.getD (i : Int).toNat [] = xs[i] := by rw [Int.toNat_natCast, List.getD_eq_getElem?_getD, List.getElem?_eq_getElem hx]; rfl
  rw [e0] at hK
  have hc : ∀ j u, c[j]? = some u → w.cell? (ad.add ((i : Int).toNat * 1 + j)) = some u := hc0
  obtain ⟨A0, c0, rfl, l0, g0⟩ := hK
  exact ⟨ad, A0, c0, e, by have hq := hc 0 _ rfl; rwa [Nat.mul_one, Nat.add_zero, Int.toNat_natCast] at hq, l0, g0⟩
set_option maxHeartbeats 4000000 in
theorem idxL_calls (g : Nat) (lb : Array Value) (p : List S59 → Bool) (Inv : World → Prop) (eg : ∀ args w, (callFunc g args).run Try.prog w = .ok (.enter g args) w) (A0 : Option Addr) (c0 : Nat) (l0 : List (List S59)) (w : World) (hw : Inv w)
    (hr0 : ∀ w1, Inv w1 → Kd.C (Kd.slice 59 k59) w1 A0 l0.length l0) (hd : ∀ w1 n, Inv w1 → Inv (w1.drewN n)) (hn : l0.length ≤ 1000000000000)
    (hp : ∀ x ∈ l0, ∀ w1 A c, Inv w1 → x.length ≤ c → k59.C w1 A x.length x → Calls Try.prog g (#[.slice A x.length c] ++ lb) w1 fun e w' => e = .returned (.bool (p x)) ∧ Inv w') :
    Calls Try.prog 133 #[.slice A0 l0.length c0, .func (.func g) #[] lb] w fun e w' => e = .returned (.int .i64 (fL p l0 0)) ∧ Inv w' := by
  have HR := aM hr0
  have HP := aM hp
  have HN := aM hn
  have HD := aM hd
  have HI := aM hw
  clear hr0 hp hn hd hw
  go_enter Try.func133, Try.ntmps133
  go_wp2
  go_loopg [5, 8] l0.length (fun gg _ s8 wr => ∃ kk : Nat, s8 = .int .i64 kk ∧ Aside0 (Inv wr) ∧ Aside0 (kk ≤ l0.length ∧ l0.length - kk ≤ gg ∧ fL p l0 0 = fL p (l0.drop kk) kk))
  case atStart => exact ⟨0, rfl, ⟨by first | exact HI.out | exact HD.out _ _ HI.out⟩, ⟨Nat.zero_le _, by omega, rfl⟩⟩
  case round =>
    obtain ⟨kk, rfl, HI, HK⟩ := hrel
    by_cases hlt : kk < l0.length
    · have hltz : decide ((kk : Int) < (l0.length : Int)) = true := decide_eq_true (by omega)
      have HC := aM (HP.out _ (List.getElem_mem hlt))
      have HDr := aM (fL_drop p l0 kk hlt)
      have p9 : 0 ≤ (kk : Int) := by omega
      have q9 : (kk : Int) < (l0.length : Int) := by omega
      have hCw := HR.out _ HI.out
      obtain ⟨ad9, A9, c9, e9, hx9, hl9, hC9⟩ := at_LG hCw kk hlt hlt
      cases e9
      have HL9 := aM hl9
      have HC9 := aM hC9
      clear hCw hl9 hC9
      replace p9 := eq_true p9
      replace q9 := eq_true q9
      have ht9 : (kk : Int).toNat = kk := Int.toNat_natCast kk
      cases hq : p l0[kk] with
      | true =>
        have HQ := aM hq
        have HCC := HC.out
        simp only [hq] at HCC
        have HX := aM HCC
        clear HCC hq
        go_wp2_with fail
        refine (HX.out _ _ _ (by first | exact HI.out | exact HD.out _ _ HI.out) HL9.out (by first | exact HC9.out | exact Kd.C_drewN HC9.out _)).mono ?_
        rintro e w' ⟨rfl, hI⟩
        have HI2 := aM hI
        clear hI
        go_wp2
        go_ret
        refine ⟨?_, by first | exact HI2.out | exact HD.out _ _ HI2.out⟩
        rw [HK.out.2.2, HDr.out, if_pos HQ.out]
        rfl
      | false =>
        have HQ := aM hq
        have HCC := HC.out
        simp only [hq] at HCC
        have HX := aM HCC
        clear HCC hq
        go_wp2_with fail
        refine (HX.out _ _ _ (by first | exact HI.out | exact HD.out _ _ HI.out) HL9.out (by first | exact HC9.out | exact Kd.C_drewN HC9.out _)).mono ?_
        rintro e w' ⟨rfl, hI⟩
        have HI2 := aM hI
        clear hI
        go_wp2
        go_roundg (l0.length - (kk + 1))
        case measure => have := HK.out; omega
        case rel =>
          refine ⟨kk + 1, ?_, ⟨by first | exact HI2.out | exact HD.out _ _ HI2.out⟩, ⟨by omega, by omega, ?_⟩⟩
          · have := HN.out
            rw [show wrap64 ((kk : Int) + 1) = ((kk + 1 : Nat) : Int) from by unfold wrap64; omega]
          · rw [HK.out.2.2, HDr.out, if_neg (by rw [HQ.out]; simp)]
    · have hltz : decide ((kk : Int) < (l0.length : Int)) = false := decide_eq_false (by omega)
      have e : kk = l0.length := by have := HK.out.1; omega
      go_wp2
      go_ret
      refine ⟨?_, by first | exact HI.out | exact HD.out _ _ HI.out⟩
      rw [HK.out.2.2, e, List.drop_length]; rfl
set_option maxHeartbeats 4000000 in
theorem contL_calls (g : Nat) (lb : Array Value) (p : List S59 → Bool) (Inv : World → Prop) (eg : ∀ args w, (callFunc g args).run Try.prog w = .ok (.enter g args) w) (A0 : Option Addr) (c0 : Nat) (l0 : List (List S59)) (w : World) (hw : Inv w)
    (hr0 : ∀ w1, Inv w1 → Kd.C (Kd.slice 59 k59) w1 A0 l0.length l0) (hd : ∀ w1 n, Inv w1 → Inv (w1.drewN n)) (hn : l0.length ≤ 1000000000000)
    (hp : ∀ x ∈ l0, ∀ w1 A c, Inv w1 → x.length ≤ c → k59.C w1 A x.length x → Calls Try.prog g (#[.slice A x.length c] ++ lb) w1 fun e w' => e = .returned (.bool (p x)) ∧ Inv w') :
    Calls Try.prog 113 #[.slice A0 l0.length c0, .func (.func g) #[] lb] w fun e w' => e = .returned (.bool (l0.any p)) ∧ Inv w' := by
  have HX := aM (fun w1 h1 => idxL_calls g lb p Inv eg A0 c0 l0 w1 h1 hr0 hd hn hp)
  have HA := aM (fL_any p l0 0 (Int.le_refl _))
  have HD := aM hd
  have HI := aM hw
  clear hr0 hp hn hd hw
  generalize fL p l0 0 = r at HX HA
  go_enter Try.func113, Try.ntmps113
  go_wp2_with fail
  refine (HX.out _ (by first | exact HI.out | exact HD.out _ _ HI.out)).mono ?_
  rintro e w' ⟨rfl, hI⟩
  have HI2 := aM hI
  clear hI
  go_wp2
  go_ret
  exact ⟨by rw [← HA.out]; rfl, by first | exact HI2.out | exact HD.out _ _ HI2.out⟩
end Go.Proofs.Ytfdfdifjkaaeoaa.F
end
section
namespace Go.Proofs.Ytfdfdifjkaaeoaa.F
open Go.RowKit Go.Proofs.YtfdfdifjkaaeoaaW.PrintWords Go.Proofs.YtfdfdifjkaaeoaaW.PrintLast Go.Proofs.YtfdfdifjkaaeoaaW.PrintMore
attribute [local go_sem] max2_int min2_int max_two min_two max_three min_three max_four min_four
set_option linter.unusedVariables false
set_option linter.unusedSimpArgs false
def impl_alike.f (k : Nat) (l0_0 : List S59) (a0_1 : Int) (a0_2 : Bool) (l1_0 : List S59) (a1_1 : Int) (a1_2 : Bool) : Option (Bool) :=
  (impl_formsOf.f k l1_0 a1_1 a1_2).bind fun L => (impl_formsOf.f k l0_0 a0_1 a0_2).bind fun M => if (L.length ≤ 1000000000000 ∧ M.length ≤ 1000000000000) ∧ (M.all fun a => L.all fun b => (impl_Cell_116.f k a b).isSome) = true then some (M.any fun a => L.any fun b => impl_Cell_116.f k a b == some true) else none
theorem predE (k : Nat) (B : Nat) (A1 : Option Addr) (c1 : Nat) (a : List S59) (W : World) (hx : W.heap[B]? = some (.cells #[.slice A1 a.length c1] 24 (0, 0))) (hC1 : Kd.C k59 W A1 a.length a) (hc1 : a.length ≤ c1) (A0 : Option Addr) (c0 : Nat) (b : List S59) (hC0 : Kd.C k59 W A0 b.length b) (hc0 : b.length ≤ c0) (r : Bool) (h : impl_Cell_116.f k a b = some r) :
    Calls Try.prog 115 #[.slice A0 b.length c0, .pointer (some ⟨B, 0, none⟩)] W fun e w' => e = .returned (.bool r) ∧ ∃ q, w' = W.drewN q := by
  have HC1 := aM hC1
  have HC0 := aM hC0
  have cc0 : W.cell? ⟨B, 0, none⟩ = some (.slice A1 a.length c1) := by simp [World.cell?, hx]
  have HH := aM h
  have HL1 := aM hc1
  have HL0 := aM hc0
  clear hx hC1 hC0 h hc1 hc0
  go_enter Try.func115, Try.ntmps115
  go_wp2_with (go_at_call 116; refine (impl_Cell_116.calls k A1 c1 a A0 c0 b r _ HC1.out HL1.out HC0.out HL0.out HH.out).mono ?_; rintro e w' ⟨rfl, ⟨q, rfl⟩⟩)
  go_ret
  exact ⟨rfl, q, rfl⟩
set_option maxHeartbeats 4000000 in
theorem predL (k : Nat) (B : Nat) (A1 : Option Addr) (c1 : Nat) (L : List (List S59)) (W : World) (hx : W.heap[B]? = some (.cells #[.slice A1 L.length c1] 61 (0, 0))) (hC1 : Kd.C (Kd.slice 59 k59) W A1 L.length L) (hL : L.length ≤ 1000000000000) (A0 : Option Addr) (c0 : Nat) (a : List S59) (hC0 : Kd.C k59 W A0 a.length a) (hc0 : a.length ≤ c0) (h : (L.all fun b => (impl_Cell_116.f k a b).isSome) = true) :
    Calls Try.prog 114 #[.slice A0 a.length c0, .pointer (some ⟨B, 0, none⟩)] W fun e w' => e = .returned (.bool (L.any fun b => impl_Cell_116.f k a b == some true)) ∧ Below W.heap.size W w' := by
  have hb1 : Below W.heap.size W (W.alloc (.cells #[.slice A0 a.length c0] 24 (0, 0))) := below_alloc (Below.refl _ _) _
  have hblk := blk_new W (.cells #[.slice A0 a.length c0] 24 (0, 0))
  have eg : ∀ args w, (callFunc 115 args).run Try.prog w = .ok (.enter 115 args) w := enters_ Try.func115 (by kernel_rfl) rfl
  have hcc : (W.alloc (.cells #[.slice A0 a.length c0] 24 (0, 0))).cell? ⟨B, 0, none⟩ = some (.slice A1 L.length c1) := by
    have : W.cell? ⟨B, 0, none⟩ = some (.slice A1 L.length c1) := by simp [World.cell?, hx]
    exact pw_cell_below hb1 this
  have hcon := contL_calls 115 #[.pointer (some ⟨W.heap.size, 0, none⟩)] (fun b => impl_Cell_116.f k a b == some true) (fun w1 => ∃ q, w1 = (W.alloc (.cells #[.slice A0 a.length c0] 24 (0, 0))).drewN q) eg A1 c1 L (W.alloc (.cells #[.slice A0 a.length c0] 24 (0, 0))) ⟨0, rfl⟩
    (by rintro _ ⟨q, rfl⟩; exact Kd.C_drewN (Kd.C_below hC1 hb1) q) (by rintro _ n ⟨q, rfl⟩; exact ⟨q + n, World.drewN_drewN _ _ _⟩) hL (by
      rintro b hb _ A c ⟨q, rfl⟩ hc hC
      obtain ⟨r, hr⟩ := Option.isSome_iff_exists.1 (List.all_eq_true.1 h b hb)
      have e : (impl_Cell_116.f k a b == some true) = r := by rw [hr]; cases r <;> rfl
      show Calls Try.prog 115 _ _ fun e w' => e = .returned (.bool (impl_Cell_116.f k a b == some true)) ∧ _
      rw [e]
      refine (predE k W.heap.size A0 c0 a _ (blk_drewN hblk q) (Kd.C_drewN (Kd.C_below hC0 hb1) q) hc0 A c b hC hc r hr).mono ?_
      rintro e w' ⟨rfl, n, rfl⟩
      exact ⟨rfl, q + n, World.drewN_drewN _ _ _⟩)
  have HX := aM hcon
  have HB1 := aM hb1
  have hcw : W.cell? ⟨B, 0, none⟩ = some (.slice A1 L.length c1) := by simp [World.cell?, hx]
  clear hcon hx hC1 hC0 hblk hb1 h
  go_enter Try.func114, Try.ntmps114
  go_wp2_with (go_at_call 113; refine HX.out.mono ?_; rintro e w' ⟨rfl, q, rfl⟩)
  go_ret
  exact ⟨rfl, pw_below_drewN HB1.out q⟩
theorem impl_alike.calls (k : Nat) (A0_0 : Option Addr) (c0_0 : Nat) (l0_0 : List S59) (a0_1 : Int) (a0_2 : Bool) (A1_0 : Option Addr) (c1_0 : Nat) (l1_0 : List S59) (a1_1 : Int) (a1_2 : Bool) (r : Bool) (w : World) (hr0_0 : Kd.C k59 w A0_0 l0_0.length l0_0) (hc0_0 : l0_0.length ≤ c0_0) (hr1_0 : Kd.C k59 w A1_0 l1_0.length l1_0) (hc1_0 : l1_0.length ≤ c1_0) (h : impl_alike.f k l0_0 a0_1 a0_2 l1_0 a1_1 a1_2 = some r) :
    Calls Try.prog 76 #[.agg #[.slice A0_0 l0_0.length c0_0, .int .i64 a0_1, .bool a0_2], .agg #[.slice A1_0 l1_0.length c1_0, .int .i64 a1_1, .bool a1_2]] w fun e w' => e = .returned (.bool r) ∧ Below w.heap.size w w' := by
  unfold impl_alike.f at h
  obtain ⟨L, hL, h⟩ := Option.bind_eq_some_iff.mp h
  obtain ⟨M, hM, h⟩ := Option.bind_eq_some_iff.mp h
  by_cases hl : (L.length ≤ 1000000000000 ∧ M.length ≤ 1000000000000) ∧ (M.all fun a => L.all fun b => (impl_Cell_116.f k a b).isSome) = true
  · rw [if_pos hl] at h
    obtain rfl := Option.some.inj h
    clear h
    have hu := Try.underlying51
    have hu2 := Try.underlying61
    have eg : ∀ args w, (callFunc 114 args).run Try.prog w = .ok (.enter 114 args) w := enters_ Try.func114 (by kernel_rfl) rfl
    have HEG := aM eg
    have HR0 := aM hr0_0
    have HR1 := aM hr1_0
    have HC0 := aM hc0_0
    have HC1 := aM hc1_0
    have HLL := aM hL
    have HMM := aM hM
    have HLN := aM hl
    clear hr0_0 hr1_0 hc0_0 hc1_0 hL hM hl eg
    go_enter Try.func76, Try.ntmps76
    go_wp2_with fail
    refine (impl_formsOf.calls k A1_0 c1_0 l1_0 a1_1 a1_2 L _ (Kd.C_alloc (Kd.C_alloc HR1.out _) _) HC1.out HLL.out).mono ?_
    rintro e w2 ⟨v0, rfl, ho0, hb⟩
    obtain ⟨Al, cl, rfl⟩ := Kd.S_slice ho0
    have HS := aM (Kd.S_reads' ho0).2
    have HBK := blk_below (blk_alloc (blk_new w (.cells #[.slice A0_0 l0_0.length c0_0, .int .i64 a0_1, .bool a0_2] 51 (0, 0))) (.cells #[.slice A1_0 l1_0.length c1_0, .int .i64 a1_1, .bool a1_2] 51 (0, 0))) hb
    have HB := aM (below_step (below_alloc (below_alloc (Below.refl w.heap.size w) _) _) hb)
    have hbX : Below w2.heap.size w2 (w2.alloc (.cells #[.slice Al L.length cl] 61 (0, 0))) := below_alloc (Below.refl _ _) _
    have HBL := aM (blk_new w2 (.cells #[.slice Al L.length cl] 61 (0, 0)))
    have hz0 : (w2.alloc (.cells #[.slice Al L.length cl] 61 (0, 0))).cell? ⟨w.heap.size, 0, none⟩ = some (.slice A0_0 l0_0.length c0_0) := pw_cell_below hbX ((blk_cell HBK 0).trans rfl)
    have hz1 : (w2.alloc (.cells #[.slice Al L.length cl] 61 (0, 0))).cell? ⟨w.heap.size, 1, none⟩ = some (.int .i64 a0_1) := pw_cell_below hbX ((blk_cell HBK 1).trans rfl)
    have hz2 : (w2.alloc (.cells #[.slice Al L.length cl] 61 (0, 0))).cell? ⟨w.heap.size, 2, none⟩ = some (.bool a0_2) := pw_cell_below hbX ((blk_cell HBK 2).trans rfl)
    have HR2 := aM (Kd.C_below HR0.out HB.out)
    clear ho0 hb HBK hbX
    go_wp2_with fail
    refine (impl_formsOf.calls k A0_0 c0_0 l0_0 a0_1 a0_2 M _ (Kd.C_alloc HR2.out _) HC0.out HMM.out).mono ?_
    rintro e w3 ⟨v1, rfl, ho1, hb⟩
    obtain ⟨Am, cm, rfl⟩ := Kd.S_slice ho1
    have HS3 := aM (Kd.S_reads' ho1).2
    have HB3 := aM (below_step (below_alloc HB.out _) hb)
    have hK := blk_below HBL.out hb
    have hCL := Kd.C_below (Kd.C_alloc HS.out.2 (.cells #[.slice Al L.length cl] 61 (0, 0))) hb
    have HX := aM (fun q => contL_calls 114 #[.pointer (some ⟨w2.heap.size, 0, none⟩)] (fun a => L.any fun b => impl_Cell_116.f k a b == some true) (fun w1 => Below w3.heap.size w3 w1) HEG.out Am cm M (w3.drewN q) (pw_below_drewN (Below.refl _ _) q)
      (fun w1 h1 => Kd.C_below HS3.out.2 h1) (fun w1 n h1 => pw_below_drewN h1 n) HLN.out.1.2 (by
        intro a ha w1 A c h1 hc hC
        refine (predL k w2.heap.size Al cl L w1 (blk_below hK h1) (Kd.C_below hCL h1) HLN.out.1.1 A c a hC hc (List.all_eq_true.1 HLN.out.2 a ha)).mono ?_
        rintro e w' ⟨rfl, hb'⟩
        exact ⟨rfl, below_step h1 hb'⟩))
    clear ho1 hb hK hCL
    go_wp2_with fail
    first | refine (HX.out _).mono ?_ | refine (HX.out 0).mono ?_
    rintro e w4 ⟨rfl, hb4⟩
    have HB4 := aM (below_step HB3.out hb4)
    clear hb4
    go_wp2
    go_ret
    exact ⟨rfl, HB4.out⟩
  · rw [if_neg hl] at h
    exact absurd h (by simp)
def impl_AreAlike.f (k : Nat) (l0_0 : List (S59)) (a0_1 : Int) (a0_2 : Bool) (l1_0 : List (S59)) (a1_1 : Int) (a1_2 : Bool) : Option (Bool) := (impl_IsPiece.f k l0_0 a0_1 a0_2).bind fun t852 => (if t852 = true then ((impl_IsPiece.f k l1_0 a1_1 a1_2).bind fun t853 => (if t853 = true then ((impl_alike.f k l0_0 a0_1 a0_2 l1_0 a1_1 a1_2).bind fun t854 => (some t854)) else (some false))) else (some false))
end Go.Proofs.Ytfdfdifjkaaeoaa.F
end
