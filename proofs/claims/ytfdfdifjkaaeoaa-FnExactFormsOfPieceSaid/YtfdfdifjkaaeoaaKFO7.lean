/- The row of FnExactFormsOfPiece, with what it needs: text 8 of 11. -/
import Derived.Test.YtfdfdifjkaaeoaaKFO6
set_option maxHeartbeats 8000000
set_option maxRecDepth 100000
section
namespace Go.Proofs.Ytfdfdifjkaaeoaa.F
open Go.RowKit Go.Proofs.YtfdfdifjkaaeoaaW.PrintWords Go.Proofs.YtfdfdifjkaaeoaaW.PrintLast Go.Proofs.YtfdfdifjkaaeoaaW.PrintMore
attribute [local go_sem] max2_int min2_int max_two min_two max_three min_three max_four min_four
set_option linter.unusedVariables false
set_option linter.unusedSimpArgs false
open Go.Sort
section
variable {W0 w W : World} {ok : Nat → Prop} {base g cap n m : Nat} {os : Array Obj}
theorem At.holds {d : Array (El W0 ok)} (h : At w base g cap d) : Holds El.v w g 0 d := by
  obtain ⟨cur, h1, h2, h3⟩ := h.cells
  intro t ht
  refine ⟨?_, by rw [Nat.zero_add]; exact blk_frozen h1 t⟩
  rw [Nat.zero_add, blk_cell h1 t]
  have e1 : cur[t]? = (d.toList.map El.v)[t]? := by
    rw [← h3, List.getElem?_take_of_lt ht, Array.getElem?_toList]
  rw [e1, List.getElem?_map, Array.getElem?_toList, Array.getElem?_eq_getElem ht, getElem!_pos d t ht]
  rfl
theorem At.sorted {d d' : Array (El W0 ok)} (h : At w base g cap d) (hs : d'.size = d.size) : At (sortWorld El.v w g 0 n d' os) base g cap d' := by
  obtain ⟨cur, h1, h2, h3⟩ := h.cells
  refine ⟨h.base, h.max, hs ▸ h.size, _, sortW1_heap El.v w g n d' os h1, by simpa [Go.Sort.putCells] using h2, putCells1_take El.v d' cur ?_⟩
  have := h.size
  omega
theorem At.cut {d : Array (El W0 ok)} (h : At w base g cap d) (q : Nat) (hq : q ≤ d.size) : At w base g cap (d.toList.take q).toArray := by
  obtain ⟨cur, h1, h2, h3⟩ := h.cells
  have hs := h.size
  refine ⟨h.base, h.max, by simp; omega, cur, h1, h2, ?_⟩
  have e : (d.toList.take q).toArray.size = q := by simp; omega
  rw [e]
  show _ = (d.toList.take q).map El.v
  rw [List.map_take, ← h3, List.take_take, Nat.min_eq_left hq]
theorem At.raw {d : Array (El W0 ok)} (h : At w base g cap d) : (Kd.raw 1).R 24 w base (fun k => some k = (Value.slice (some ⟨g, 0, none⟩) d.size cap).ownBlock) (.slice (some ⟨g, 0, none⟩) d.size cap) (d.toList.map fun x => [x.v]) := by
  obtain ⟨cur, h1, h2, h3⟩ := h.cells
  have hl : (d.toList.map fun x : El W0 ok => [x.v]).length = d.size := by simp
  refine ⟨fun k hk => hk.symm, d.toList.map El.v, ⟨by rw [hl]; simp [Kd.raw], .inr ⟨g, cap, cur, by rw [hl], h.base, h1, by rw [hl]; exact h.size, h.max, by simpa [Kd.raw] using h2, by rw [hl]; simpa [Kd.raw] using h3⟩⟩, by rw [hl]; simp [Kd.raw], ?_⟩
  intro j p hp
  rw [List.getElem?_map, Option.map_eq_some_iff] at hp
  obtain ⟨x, hx, rfl⟩ := hp
  have hj : j < (d.toList.map El.v).length := by
    have := (List.getElem?_eq_some_iff.1 hx).1
    simpa using this
  have e : ((d.toList.map El.v).drop (j * (Kd.raw 1).sz)).take (Kd.raw 1).sz = [x.v] := by
    show ((d.toList.map El.v).drop (j * 1)).take 1 = _
    rw [Nat.mul_one, List.drop_eq_getElem_cons hj]
    have : (d.toList.map El.v)[j]? = some x.v := by rw [List.getElem?_map, hx]; rfl
    rw [List.getElem?_eq_getElem hj] at this
    simp [Option.some.inj this]
  rw [e]
  exact ⟨rfl, rfl, fun u hu => by rw [List.mem_singleton.1 hu]; exact x.one⟩
end
section
variable {w W : World} {ok : Nat → Prop} {base g cap n : Nat} {xs : List (List S59)}
abbrev inn (ok : Nat → Prop) (g : Nat) : Nat → Prop := fun k => ok k ∧ k ≠ g
theorem inn_of {k : Nat} {c : Nat} (h : ok k ∧ some k ≠ (Value.slice (some ⟨g, 0, none⟩) n c).ownBlock) : inn ok g k := ⟨h.1, fun e => h.2 (by rw [e]; rfl)⟩
theorem inn_to {k : Nat} {c : Nat} (h : inn ok g k) : ok k ∧ some k ≠ (Value.slice (some ⟨g, 0, none⟩) n c).ownBlock := ⟨h.1, fun e => h.2 (by injection e)⟩
end
section
variable {w W : World} {ok : Nat → Prop} {base g cap n : Nat} {xs : List (List S59)}
theorem S_open (h : Kd.S (Kd.slice 59 k59) 24 w base ok (.slice (some ⟨g, 0, none⟩) n cap) xs) : ok g ∧ n = xs.length ∧ ∃ f : Nat → Nat, ∃ d : Array (El w (inn ok g)), d.toList.map El.l = xs ∧ At w base g cap d ∧ d.toList.map El.j = List.range d.size ∧ ∀ x ∈ d.toList, (Kd.slice 59 k59).M w base (fun k => inn ok g k ∧ f k = x.j) x.l [x.v] := by
  obtain ⟨f, h1, inner, ⟨h2, h3⟩, h4, h5⟩ := h
  rcases h3 with ⟨h3, _⟩ | ⟨g', cap', cur, h3, h6, h7, h8, h9, h10, h11⟩
  · cases h3
  injection h3 with h3 h13 h12
  injection h3 with h3
  injection h3 with h3
  subst h3 h12
  have hs1 : (Kd.tag f (Kd.slice 59 k59)).sz = 1 := rfl
  rw [hs1, Nat.mul_one] at h2 h4
  rw [hs1, Nat.mul_one] at h11
  rw [hs1, Nat.mul_one] at h10
  rw [List.length_zipIdx] at h13 h2 h4 h8 h11
  have hel : ∀ j : Fin xs.length, (Kd.slice 59 k59).M w base (fun k => inn ok g k ∧ f k = j.1) xs[j.1] [inner[j.1]'(by omega)] := fun j => by
    have h := h5 j.1 (xs[j.1], j.1) (Kd.zip_at (List.getElem?_eq_getElem j.2))
    have e : (inner.drop (j.1 * (Kd.tag f (Kd.slice 59 k59)).sz)).take (Kd.tag f (Kd.slice 59 k59)).sz = [inner[j.1]'(by omega)] := by
      rw [hs1, Nat.mul_one, List.drop_eq_getElem_cons (by omega)]
      rfl
    rw [e] at h
    exact Kd.M_mono _ (fun k hk => ⟨inn_of hk.1, hk.2⟩) h
  refine ⟨h1 g rfl, h13, f, Array.ofFn fun j : Fin xs.length => El.mk (inner[j.1]'(by omega)) xs[j.1] j.1 (Kd.FK_mono (Kd.FK_of_M (hel j)) (fun _ hk => hk.1)), ?_, ⟨h6, h9, by rw [Array.size_ofFn]; exact h8, cur, h7, h10, ?_⟩, ?_, ?_⟩
  · apply List.ext_getElem
    · simp
    · intro i hi hi2
      simp
  · rw [Array.size_ofFn, h11]
    apply List.ext_getElem
    · simp; omega
    · intro i hi hi2
      simp
  · apply List.ext_getElem
    · simp
    · intro i hi hi2
      simp
  · intro x hx
    obtain ⟨i, hi, rfl⟩ := List.getElem_of_mem hx
    have hi' : i < xs.length := by simpa using hi
    have := hel ⟨i, hi'⟩
    simpa using this
theorem S_close {d0 : World} {f : Nat → Nat} {d : Array (El d0 (inn ok g))} (hok : ok g) (h : At w base g cap d) (hs : Same d0 w (inn ok g)) (hn : (d.toList.map El.j).Nodup) (hM : ∀ x ∈ d.toList, (Kd.slice 59 k59).M d0 base (fun k => inn ok g k ∧ f k = x.j) x.l [x.v]) :
    Kd.S (Kd.slice 59 k59) 24 w base ok (.slice (some ⟨g, 0, none⟩) d.size cap) (d.toList.map El.l) := by
  obtain ⟨cur, h1, h2, h3⟩ := h.cells
  have hl : (d.toList.map El.l).zipIdx.length = d.size := by simp
  refine ⟨fun k => (d.toList.map El.j).idxOf (f k), fun k hk => ?_, d.toList.map El.v, ⟨by rw [hl]; simp [Kd.tag, Kd.slice], .inr ⟨g, cap, cur, by rw [hl], h.base, h1, by rw [hl]; exact h.size, h.max, by simpa [Kd.tag, Kd.slice] using h2, by rw [hl]; simpa [Kd.tag, Kd.slice] using h3⟩⟩, by rw [hl]; simp [Kd.tag, Kd.slice], ?_⟩
  · simp [Value.ownBlock] at hk
    exact hk ▸ hok
  · intro j p hp
    rw [List.getElem?_zipIdx, Nat.zero_add, Option.map_eq_some_iff] at hp
    obtain ⟨l, hx, rfl⟩ := hp
    rw [List.getElem?_map, Option.map_eq_some_iff] at hx
    obtain ⟨x, hx, rfl⟩ := hx
    have hj : j < (d.toList.map El.v).length := by
      have := (List.getElem?_eq_some_iff.1 hx).1
      simpa using this
    have e : ((d.toList.map El.v).drop (j * 1)).take 1 = [x.v] := by
      rw [Nat.mul_one, List.drop_eq_getElem_cons hj]
      have : (d.toList.map El.v)[j]? = some x.v := by rw [List.getElem?_map, hx]; rfl
      rw [List.getElem?_eq_getElem hj] at this
      simp [Option.some.inj this]
    show (Kd.slice 59 k59).M w base _ x.l (((d.toList.map El.v).drop (j * 1)).take 1)
    rw [e]
    have hm := hM x (List.mem_of_getElem? hx)
    refine Kd.M_mono _ (fun k hk => ⟨inn_to hk.1, ?_⟩) (Kd.M_step hm (fun k hk hlt => hs k hk.1 hlt))
    have hj' : j < (d.toList.map El.j).length := by simpa using hj
    have ex : (d.toList.map El.j)[j] = x.j := by
      have : (d.toList.map El.j)[j]? = some x.j := by rw [List.getElem?_map, hx]; rfl
      rw [List.getElem?_eq_getElem hj'] at this
      exact Option.some.inj this
    show List.idxOf (f k) (d.toList.map El.j) = j
    rw [hk.2, ← ex]
    exact hn.idxOf_getElem j hj'
end
theorem compareF_rounds (a b : List S59) (hl : a.length = b.length) (hs : a.length ≤ 9223372036854775807) : ∀ (suf pre : List S59), a = pre ++ suf → ∀ k, suf.length < k → impl_Cell_155__impl_compareCells.l0 k a b a (a.length : Int) (pre.length : Int) = some (ordL suf (b.drop pre.length)) := by
  intro suf
  induction suf with
  | nil =>
    intro pre hx k hk
    obtain ⟨k, rfl⟩ : ∃ m, k = m + 1 := ⟨k - 1, by omega⟩
    rw [List.append_nil] at hx
    subst hx
    simp only [impl_Cell_155__impl_compareCells.l0]
    rw [if_neg (by omega), if_neg (by omega)]
    rfl
  | cons c suf ih =>
    intro pre hx k hk
    obtain ⟨k, rfl⟩ : ∃ m, k = m + 1 := ⟨k - 1, by omega⟩
    have hla : a.length = pre.length + (suf.length + 1) := by rw [hx]; simp
    have hpb : pre.length < b.length := by omega
    have ea : rd_T59 a (pre.length : Int) = c := by
      unfold rd_T59
      rw [hx]
      simp [List.getD]
    have eb : rd_T59 b (pre.length : Int) = b[pre.length] := by
      unfold rd_T59
      rw [List.getD_eq_getElem?_getD, Int.toNat_natCast, List.getElem?_eq_getElem hpb]
      rfl
    have ew : wrap64 ((pre.length : Int) + 1) = ((pre ++ [c]).length : Int) := by
      rw [List.length_append, List.length_singleton]
      simp only [wrap64]
      omega
    have hi := ih (pre ++ [c]) (by rw [hx]; simp) k (by simp at hk; omega)
    simp only [impl_Cell_155__impl_compareCells.l0]
    rw [if_pos (by omega), if_pos (by omega), if_pos (by omega), if_neg (by omega), if_pos (by omega), ea, eb, cmpV_eq, Option.bind_some, ew, hi, List.drop_eq_getElem_cons hpb, ordL, List.length_append, List.length_singleton]
    split <;> rfl
theorem compare_rounds (a b : List S59) (hs : a.length ≤ 9223372036854775807) : ∃ k, impl_compareShapes.f k a b = some (ordS a b) := by
  refine ⟨a.length + 1, ?_⟩
  unfold impl_compareShapes.f ordS
  by_cases hl : a.length = b.length
  · rw [if_pos hl, if_pos (by omega)]
    have := compareF_rounds a b hl hs a [] rfl (a.length + 1) (by omega)
    unfold impl_Cell_155__impl_compareCells.f
    simp only [List.length_nil, Int.natCast_zero, List.drop_zero] at this
    rw [this]
    rfl
  · rw [if_neg hl, if_neg (by omega)]
    split
    · rw [if_pos (by omega)]
    · rw [if_neg (by omega)]
set_option maxHeartbeats 4000000 in
theorem impl_Cell_139__impl_compareShapes.raw {W0 w : World} {ok : Nat → Prop} {base g cap : Nat} (d : Array (El W0 ok)) (hA : At w base g cap d) (hS : Same W0 w ok) (hg : ¬ ok g) (hsz : d.size < 4611686018427387904) :
    Calls Try.prog 139 #[.slice (some ⟨g, 0, none⟩) d.size cap, .func (.func 140) #[] #[]] w fun e w' => e = .returned (.tuple #[]) ∧ ∃ (d' : Array (El W0 ok)) (n : Nat) (os : Array Obj), d'.toList.Perm d.toList ∧ d'.toList.map El.l = sortS (d.toList.map El.l) ∧ w' = sortWorld El.v w g 0 n d' os := by
  have eg : ∀ args w, (callFunc 140 args).run Try.prog w = .ok (.enter 140 args) w := enters_of Try.func140 (by kernel_rfl) rfl
  have hcmp : CmpLays1 Try.prog 140 #[] El.v cfE g 0 d.size w := fun m os dk hdk x y => by
    have hgw := sortW1_grown El.v w g m dk os
    obtain ⟨A0, c0, e0, hc0, hC0⟩ := x.now (hS.grown hgw hg)
    obtain ⟨A1, c1, e1, hc1, hC1⟩ := y.now (hS.grown hgw hg)
    obtain ⟨k, hk⟩ := compare_rounds x.l y.l hC0.2.1
    rw [e0, e1]
    exact (impl_compareShapes.callsG k A0 c0 x.l A1 c1 y.l (ordS x.l y.l) _ hC0 hc0 hC1 hc1 hk).mono fun _ _ hh => ⟨hh.1, hh.2.gr⟩
  have hcon := Any.slices_SortFunc sortS_lays El.v El.one cfE swoE 140 #[] g 0 cap d w eg hcmp hA.holds hA.lt hsz
  refine (show Calls Try.prog 139 #[.slice (some ⟨g, 0, none⟩) d.size cap, .func (.func 140) #[] #[]] w _ from hcon).mono ?_
  rintro e w' ⟨rfl, d', n, os, hp, hs', rfl⟩
  have hP : d'.toList.Perm d.toList := by
    have := hp.2.2
    have e1 : d'.extract 0 d.size = d' := by rw [← hp.1]; exact Array.extract_size
    have e2 : d.extract 0 d.size = d := Array.extract_size
    rwa [e1, e2] at this
  refine ⟨rfl, d', n, os, hP, ?_, rfl⟩
  refine List.Perm.eq_of_pairwise (le := fun x y => (!ltOf ordS y x) = true) ?_ ?_ ?_ ((hP.map El.l).trans (List.mergeSort_perm _ _).symm)
  · intro a b _ _ h1 h2
    simp only [Bool.not_eq_true'] at h1 h2
    exact antiS a b h2 h1
  · rw [List.pairwise_map, List.pairwise_iff_getElem]
    intro i j hi hj hij
    have hi' : i < d'.size := by simpa using hi
    have hj' : j < d'.size := by simpa using hj
    have := hs' i j (Nat.zero_le _) hij (by rw [← hp.1]; exact hj')
    rw [getElem!_pos d' i hi', getElem!_pos d' j hj'] at this
    simp only [Bool.not_eq_true', Array.getElem_toList]
    exact this
  · have := List.pairwise_mergeSort (le := fun x y : List S59 => !ltOf ordS y x) (fun a b c h1 h2 => by
      simp only [Bool.not_eq_true'] at *
      exact swoS.ntrans c b a h2 h1) (fun a b => by
      rw [Bool.or_eq_true]
      by_cases e : ltOf ordS b a = true
      · right
        simp only [Bool.not_eq_true']
        rw [ltS_iff]
        unfold ltOf at e
        rw [decide_eq_true_eq] at e
        rw [ordS_anti]
        omega
      · left
        simpa using e) (d.toList.map El.l)
    exact this
def impl_equalShapes.f (k : Nat) (l0 : List (S59)) (l1 : List (S59)) : Option (Bool) := (impl_Cell_116.f k l0 l1).bind fun t827 => (some t827)
theorem impl_equalShapes.calls (k : Nat) (A0 : Option Addr) (c0 : Nat) (l0 : List (S59)) (A1 : Option Addr) (c1 : Nat) (l1 : List (S59)) (r : Bool) (w : World) (hr0 : Kd.C k59 w A0 l0.length l0) (hc0 : l0.length ≤ c0) (hr1 : Kd.C k59 w A1 l1.length l1) (hc1 : l1.length ≤ c1) (h : impl_equalShapes.f k l0 l1 = some r) :
  Calls Try.prog 142 #[.slice A0 l0.length c0, .slice A1 l1.length c1] w fun e w' => e = .returned (.bool r) ∧ Drawn0 w w' := by
 have HR0 := aM hr0
 have HC0 := aM hc0
 clear hr0 hc0
 have HR1 := aM hr1
 have HC1 := aM hc1
 clear hr1 hc1
 have H : ((impl_Cell_116.f k l0 l1).bind fun t827 => (some t827)) = some r := h
 clear h
 replace H := Option.bind_eq_some_iff.mp H
 obtain ⟨t827, A30, H⟩ := H
 replace H : (some t827) = some r := H
 have A3 := aM A30
 clear A30
 obtain rfl := Option.some.inj H
 go_enter Try.func142, Try.ntmps142
 go_wp2_with (first | ((with_reducible refine gate_callee (f := 116) rfl ?_); refine goesL_ (some 7) rfl rfl Try.func116 (by kernel_rfl) rfl #[.slice A0 l0.length c0, .slice A1 l1.length c1] rfl zm ?_; (with_reducible refine (impl_Cell_116.calls k _ _ l0 _ _ l1 t827 _ ?side1 ?side2 ?side3 ?side4 A3.out).mono ?_); (case side1 => repeat (first | exact HR0.out | (with_reducible refine Kd.C_alloc ?_ _) | (with_reducible refine Kd.C_drewN ?_ _) | (with_reducible refine Kd.C_drew ?_))); (case side2 => exact HC0.out); (case side3 => repeat (first | exact HR1.out | (with_reducible refine Kd.C_alloc ?_ _) | (with_reducible refine Kd.C_drewN ?_ _) | (with_reducible refine Kd.C_drew ?_))); (case side4 => exact HC1.out); rintro e w' ⟨rfl, ⟨nd, rfl⟩⟩; refine ⟨_, rfl, ?_⟩))
 go_ret
 exact ⟨by first | rfl | (simp; done) | (simp [*]; done), by repeat (first | exact Drawn0.refl _ | apply Drawn0.step)⟩
end Go.Proofs.Ytfdfdifjkaaeoaa.F
end
section
namespace Go.Proofs.Ytfdfdifjkaaeoaa.F
open Go.RowKit Go.Proofs.YtfdfdifjkaaeoaaW.PrintWords Go.Proofs.YtfdfdifjkaaeoaaW.PrintLast Go.Proofs.YtfdfdifjkaaeoaaW.PrintMore
attribute [local go_sem] max2_int min2_int max_two min_two max_three min_three max_four min_four
set_option linter.unusedVariables false
set_option linter.unusedSimpArgs false
open Go.Sort
def compG {β : Type} [DecidableEq β] (p : β) : List β → List β
  | [] => []
  | b :: r => if b = p then compG b r else b :: compG b r
def compF {β : Type} [DecidableEq β] : List β → List β
  | [] => []
  | a :: r => a :: compG a r
theorem compG_snoc {β : Type} [DecidableEq β] : ∀ (l : List β) (p b : β), compG p (l ++ [b]) = if b = (p :: l).getLast (by simp) then compG p l else compG p l ++ [b]
  | [], p, b => by
    by_cases h : b = p
    · simp [compG, h]
    · simp [compG, h]
  | a :: r, p, b => by
    have ih := compG_snoc r a b
    rw [List.cons_append, compG, compG, ih]
    have e : (p :: a :: r).getLast (by simp) = (a :: r).getLast (by simp) := List.getLast_cons (by simp)
    rw [e]
    by_cases h : a = p
    · rw [if_pos h, if_pos h]
    · rw [if_neg h, if_neg h]
      split
      · rfl
      · rfl
theorem compF_snoc {β : Type} [DecidableEq β] (l : List β) (b : β) (h : l ≠ []) : compF (l ++ [b]) = if b = l.getLast h then compF l else compF l ++ [b] := by
  cases l with
  | nil => exact absurd rfl h
  | cons a r =>
    rw [List.cons_append, compF, compF, compG_snoc]
    split
    · rfl
    · rfl
theorem compG_len {β : Type} [DecidableEq β] : ∀ (l : List β) (p : β), (compG p l).length ≤ l.length
  | [], _ => Nat.le_refl _
  | a :: r, p => by
    rw [compG]
    have := compG_len r a
    split
    · rw [List.length_cons]; omega
    · rw [List.length_cons, List.length_cons]; omega
theorem compF_len {β : Type} [DecidableEq β] (l : List β) : (compF l).length ≤ l.length := by
  cases l with
  | nil => exact Nat.le_refl _
  | cons a r => rw [compF, List.length_cons, List.length_cons]; have := compG_len r a; omega
theorem take_snoc_get {β : Type} (l : List β) (m : Nat) (h : m < l.length) : l.take (m + 1) = l.take m ++ [l[m]] := by
  rw [List.take_succ_eq_append_getElem h]
theorem compF_step {β : Type} [DecidableEq β] (l : List β) (m : Nat) (h : m < l.length) (h0 : 0 < m) : compF (l.take (m + 1)) = if l[m] = l[m - 1]'(by omega) then compF (l.take m) else compF (l.take m) ++ [l[m]] := by
  have hn : l.take m ≠ [] := by
    intro e
    have := congrArg List.length e
    rw [List.length_take, List.length_nil] at this
    omega
  rw [take_snoc_get l m h, compF_snoc _ _ hn]
  have e : (l.take m).getLast hn = l[m - 1]'(by omega) := by
    rw [List.getLast_eq_getElem]
    simp only [List.length_take, List.getElem_take]
    congr 1
    omega
  rw [e]
theorem take_sub {β : Type} (l : List β) {n m : Nat} (h : n ≤ m) : (l.take n).Sublist (l.take m) := by
  have : l.take n = (l.take m).take n := by rw [List.take_take, Nat.min_eq_left h]
  rw [this]
  exact List.take_sublist _ _
structure CompIv {α β : Type} [Inhabited α] [DecidableEq β] (key : α → β) (d : Array α) (m kk : Nat) (dk : Array α) : Prop where
  size : dk.size = d.size
  lt : kk < m
  le : m ≤ d.size
  low : (dk.toList.take kk).map key = compF ((d.toList.map key).take m)
  high : ∀ j, kk ≤ j → dk[j]! = d[j]!
  sub : (dk.toList.take kk).Sublist (d.toList.take m)
section
variable {α β : Type} [Inhabited α] [DecidableEq β] {key : α → β} {d dk : Array α} {m kk : Nat}
def AllKeep (key : α → β) (d : Array α) (m : Nat) : Prop := m ≤ d.size ∧ compF ((d.toList.map key).take m) = (d.toList.map key).take m
omit [Inhabited α] in
theorem AllKeep.one (h : 1 ≤ d.size) : AllKeep key d 1 := by
  refine ⟨h, ?_⟩
  cases hd : d.toList with
  | nil =>
    have e : d.toList.length = 0 := by rw [hd]; rfl
    rw [Array.length_toList] at e
    omega
  | cons a r => simp [compF, compG]
omit [DecidableEq β] in
theorem key_get (h : m < d.size) : (d.toList.map key)[m]'(by simpa using h) = key d[m]! := by
  rw [List.getElem_map, getElem!_pos d m h]
  simp
theorem AllKeep.step (h : AllKeep key d m) (h0 : 0 < m) (hm : m < d.size) (hk : key d[m]! ≠ key d[m - 1]!) : AllKeep key d (m + 1) := by
  refine ⟨hm, ?_⟩
  have hl : m < (d.toList.map key).length := by simpa using hm
  rw [compF_step _ m hl h0, key_get hm, key_get (by omega), if_neg hk, h.2, take_snoc_get _ m hl, key_get hm]
theorem CompIv.start (h : AllKeep key d kk) (h0 : 0 < kk) (hm : kk < d.size) (hk : key d[kk]! = key d[kk - 1]!) : CompIv key d (kk + 1) kk d where
  size := rfl
  lt := Nat.lt_succ_self _
  le := hm
  low := by
    have hl : kk < (d.toList.map key).length := by simpa using hm
    rw [compF_step _ kk hl h0, key_get hm, key_get (by omega), if_pos hk, h.2, List.map_take]
  high := fun _ _ => rfl
  sub := take_sub _ (Nat.le_succ _)
theorem CompIv.skip (h : CompIv key d m kk dk) (hm : m < d.size) (hk : key d[m]! = key d[m - 1]!) : CompIv key d (m + 1) kk dk where
  size := h.size
  lt := by have := h.lt; omega
  le := hm
  low := by
    have hl : m < (d.toList.map key).length := by simpa using hm
    have := h.lt
    rw [compF_step _ m hl (by omega), key_get hm, key_get (by omega), if_pos hk, h.low]
  high := h.high
  sub := h.sub.trans (take_sub _ (Nat.le_succ _))
omit [Inhabited α] in
theorem take_set {l : List α} {k : Nat} {x : α} (h : k < l.length) : (l.set k x).take (k + 1) = l.take k ++ [x] := by
  rw [take_snoc_get _ k (by simpa using h), List.take_set_of_le (Nat.le_refl _)]
  simp
theorem CompIv.keep (h : CompIv key d m kk dk) (hm : m < d.size) (hk : key d[m]! ≠ key d[m - 1]!) : CompIv key d (m + 1) (kk + 1) (dk.setIfInBounds kk d[m]!) where
  size := by simp [h.size]
  lt := by have := h.lt; omega
  le := hm
  low := by
    have hl : m < (d.toList.map key).length := by simpa using hm
    have h1 := h.lt
    have h2 := h.size
    rw [compF_step _ m hl (by omega), key_get hm, key_get (by omega), if_neg hk, ← h.low]
    have hkk : kk < dk.toList.length := by simp; omega
    rw [Array.toList_setIfInBounds, take_set hkk, List.map_append]
    rfl
  high := fun j hj => by rw [Go.Sort.getElem!_set_other dk kk j _ (by omega), h.high j (by omega)]
  sub := by
    have h1 := h.lt
    have h2 := h.size
    have hkk : kk < dk.toList.length := by simp; omega
    have hmm : m < d.toList.length := by simpa using hm
    rw [Array.toList_setIfInBounds, take_set hkk, take_snoc_get _ m hmm]
    refine h.sub.append ?_
    rw [getElem!_pos d m hm]
    simp
end
section
variable {α : Type} [Inhabited α] {enc : α → Value} {w0 W : World} {blk off : Nat} {dk : Array α}
theorem SW_set (h : SW enc w0 blk off dk W) (hblk : blk < w0.heap.size) (i : Nat) (hi : i < dk.size) (x : α) : SW enc w0 blk off (dk.setIfInBounds i x) (W.setCell ⟨blk, off + i, none⟩ (enc x)) := by
  obtain ⟨n, os, rfl⟩ := h
  refine ⟨n, os, ?_⟩
  unfold sortWorld
  rw [← putRow_grow enc (Go.Sort.ahead w0 n) os blk off dk hblk, Go.Sort.putRow_set enc _ blk off dk i x hi, putRow_grow enc (Go.Sort.ahead w0 n) os blk off _ hblk]
theorem SW_clear (h : SW enc w0 blk off dk W) (hblk : blk < w0.heap.size) (k : Nat) (xs : List α) (hk : k + xs.length ≤ dk.size) : ∃ dk' : Array α, dk'.size = dk.size ∧ dk'.toList.take k = dk.toList.take k ∧ SW enc w0 blk off dk' (W.setCells blk (off + k) (xs.map enc)) := by
  obtain ⟨m, os, rfl⟩ := h
  have hs : (Go.Lib.lay dk k xs).size = dk.size := by
    have : ∀ (xs : List α) (d : Array α) (k : Nat), (Go.Lib.lay d k xs).size = d.size := by
      intro xs
      induction xs with
      | nil => intro d k; rfl
      | cons x r ih => intro d k; rw [Go.Lib.lay, ih]; simp
    exact this _ _ _
  refine ⟨Go.Lib.lay dk k xs, hs, ?_, m, os, ?_⟩
  · apply List.ext_getElem?
    intro j
    by_cases hj : j < k
    · rw [List.getElem?_take_of_lt hj, List.getElem?_take_of_lt hj, Array.getElem?_toList, Go.Lib.lay_get? _ _ _ _ hk, if_neg (by omega), Array.getElem?_toList]
    · rw [List.getElem?_eq_none (by simp; omega), List.getElem?_eq_none (by simp; omega)]
  · unfold sortWorld
    rw [← putRow_grow enc (Go.Sort.ahead w0 m) os blk off dk hblk, Go.Lib.putRow_setCells enc _ blk off _ dk k hk, putRow_grow enc (Go.Sort.ahead w0 m) os blk off _ hblk]
end
theorem quietAt {P : Program} {f : FuncId} {args : Array Value} {w : World} {q a : Nat} {v : Value} (h : Calls P f args (w.drewN (q + a)) fun e w' => e = .returned v ∧ ∃ n, w' = (w.drewN (q + a)).drewN n) : Calls P f args (w.drewN (q + a)) fun e w' => e = .returned v ∧ ∃ n, w' = w.drewN (q + n) :=
  h.mono fun _ _ ⟨he, m, hm⟩ => ⟨he, a + m, by rw [hm, World.drewN_drewN, Nat.add_assoc]⟩
instance instDecC : DecidableEq S59 := fun a b => if h : a.f0 = b.f0 ∧ a.f1 = b.f1 then .isTrue (by obtain ⟨a0, a1⟩ := a; obtain ⟨b0, b1⟩ := b; simp_all) else .isFalse (fun e => h (by rw [e]; exact ⟨rfl, rfl⟩))
open Go.Sort
theorem equalF_rounds (a b : List S59) (hl : a.length = b.length) (hs : a.length ≤ 9223372036854775807) : ∀ (suf pre : List S59), a = pre ++ suf → ∀ k, suf.length < k → impl_Cell_116.l0 k a b (a.length : Int) (pre.length : Int) = some (decide (suf = b.drop pre.length)) := by
  intro suf
  induction suf with
  | nil =>
    intro pre hx k hk
    obtain ⟨k, rfl⟩ : ∃ m, k = m + 1 := ⟨k - 1, by omega⟩
    rw [List.append_nil] at hx
    subst hx
    simp only [impl_Cell_116.l0]
    rw [if_neg (by omega), List.drop_of_length_le (by omega)]
    rfl
  | cons c suf ih =>
    intro pre hx k hk
    obtain ⟨k, rfl⟩ : ∃ m, k = m + 1 := ⟨k - 1, by omega⟩
    have hla : a.length = pre.length + (suf.length + 1) := by rw [hx]; simp
    have hpb : pre.length < b.length := by omega
    have ea : rd_T59 a (pre.length : Int) = c := by
      unfold rd_T59
      rw [hx]
      simp [List.getD]
    have eb : rd_T59 b (pre.length : Int) = b[pre.length] := by
      unfold rd_T59
      rw [List.getD_eq_getElem?_getD, Int.toNat_natCast, List.getElem?_eq_getElem hpb]
      rfl
    have ew : wrap64 ((pre.length : Int) + 1) = ((pre ++ [c]).length : Int) := by
      rw [List.length_append, List.length_singleton]
      simp only [wrap64]
      omega
    have hi := ih (pre ++ [c]) (by rw [hx]; simp) k (by simp at hk; omega)
    rw [List.length_append, List.length_singleton] at hi ew
    simp only [impl_Cell_116.l0]
    rw [if_pos (by omega), if_pos (by omega), if_pos (by omega), if_pos (by omega), ea, eb, ew, hi, List.drop_eq_getElem_cons hpb]
    generalize b[pre.length] = e
    generalize b.drop (pre.length + 1) = t
    split
    · rename_i h
      have hne : c ≠ e := by
        rintro rfl
        simp at h
      simp [hne]
    · rename_i h
      have heq : c = e := by
        cases c
        cases e
        simp_all
      subst heq
      simp
theorem equal_rounds (a b : List S59) (hs : a.length ≤ 9223372036854775807) : ∃ k, impl_equalShapes.f k a b = some (decide (a = b)) := by
  refine ⟨a.length + 1, ?_⟩
  unfold impl_equalShapes.f impl_Cell_116.f
  by_cases hl : a.length = b.length
  · rw [if_pos (by omega)]
    have := equalF_rounds a b hl hs a [] rfl (a.length + 1) (by omega)
    simp only [List.length_nil, Int.natCast_zero, List.drop_zero] at this
    rw [this]
    rfl
  · rw [if_neg (by omega)]
    have : a ≠ b := fun e => hl (by rw [e])
    simp [this]
set_option maxHeartbeats 4000000 in
set_option maxRecDepth 1000000 in
theorem impl_Cell_141__impl_equalShapes.rawE {W0 w : World} {ok : Nat → Prop} {base b cap : Nat} (d : Array (El W0 ok)) (hA : At w base b cap d) (hS : Same W0 w ok) (hg : ¬ ok b) (h0 : 0 < d.size) (hsz : d.size < 4611686018427387904)
    (heq : ∀ (W : World) (dk : Array (El W0 ok)), SW El.v w b 0 dk W → ∀ x y : El W0 ok, Calls Try.prog 142 #[x.v, y.v] W fun e w' => e = .returned (.bool (decide (x.l = y.l))) ∧ ∃ n, w' = W.drewN n) :
    Calls Try.prog 141 #[.slice (some ⟨b, 0, none⟩) d.size cap, .func (.func 142) #[] #[]] w fun e w' => ∃ (q : Nat) (dk : Array (El W0 ok)) (n : Nat) (os : Array Obj), e = .returned (.slice (some ⟨b, 0, none⟩) q cap) ∧ q ≤ dk.size ∧ dk.size = d.size ∧ (dk.toList.take q).map El.l = compF (d.toList.map El.l) ∧ (dk.toList.take q).Sublist d.toList ∧ w' = sortWorld El.v w b 0 n dk os := by
  have hlt := hA.lt
  have hH := hA.holds
  have hcap := hA.size
  have hcm := hA.max
  have hm : cap ≤ 9223372036854775807 := by unfold maxLen at hcm; omega
  have hO : OneCell (El.v (W0 := W0) (ok := ok)) := El.one
  have hcl0 := hO.cells
  simp only [Value.cells] at hcl0
  have hst := hO.store Try.prog
  have HE := aM heq
  have HH := aM hH
  have HL := aM hlt
  have hkey : (d.toList.map El.l).length = d.size := by simp
  have HK := aM hkey
  clear heq hH hlt hS hA hcm hkey hg
  by_cases h2 : d.size < 2
  · go_enter Try.func141, Try.ntmps141
    go_wp2
    go_ret
    have h1 := AllKeep.one (key := El.l) (d := d) (by omega)
    have e : d.size = 1 := by omega
    refine ⟨d.size, d, 0, #[], rfl, Nat.le_refl _, rfl, ?_, by rw [List.take_of_length_le (by simp)]; exact List.Sublist.refl _, (sortWorld_start El.v w b 0 d HH.out).symm⟩
    have := h1.2
    rw [List.take_of_length_le (by rw [HK.out]; omega)] at this
    rw [List.take_of_length_le (by simp), this]
  · go_enter Try.func141, Try.ntmps141
    go_wp2
    go_loopg [5] d.size (fun gh s5 wr => ∃ k q : Nat, 1 ≤ k ∧ k ≤ d.size ∧ d.size - k ≤ gh ∧ s5 = .int .i64 k ∧ wr = w.drewN q ∧ AllKeep El.l d k)
    case atStart => exact ⟨1, 0, Nat.le_refl _, by omega, by omega, rfl, rfl, AllKeep.one (by omega)⟩
    case round =>
      obtain ⟨k, q, hk1, hk, hgh, rfl, rfl, hall⟩ := hrel
      by_cases hlt : k < d.size
      · obtain ⟨c1, f1⟩ := HH.out k hlt
        obtain ⟨c0, f0⟩ := HH.out (k - 1) (by omega)
        rw [Nat.zero_add] at c1 c0 f1 f0
        have A := aM hall
        clear hall
        generalize hx : d[k]! = x at c1
        generalize hy : d[k - 1]! = y at c0
        have B : Aside0 (d[k]! = x ∧ d[k - 1]! = y) := ⟨⟨hx, hy⟩⟩
        clear hx hy
        by_cases hdup : x.l = y.l
        · have HD := aM hdup
          have i1 : IntKind.i64.wrap ((k : Int) - 1) = (k : Int) - 1 := IntWalk.i64_in _ (by omega)
          have i2 : (1 : Int) ≤ (k : Int) := by omega
          have i3 : ((k : Int) - 1).toNat = k - 1 := by omega
          have i4 : (k : Int) - 1 < (d.size : Int) := by omega
          have i5 : (0 : Int) ≤ (k : Int) - 1 := by omega
          go_wp2_with fail
          go_quiet ((exact quietAt (v := .bool true) ((HE.out _ d ((SW.start HH.out).drewN (q + _)) x y).mono fun _ _ hh => ⟨by rw [hh.1, decide_eq_true HD.out], hh.2⟩)))
          go_wp2
          clear c0 c1 f0 f1 i1 i2 i3 i4 i5
          go_loopg [5, 7] d.size (fun gh s5 s7 wr => ∃ (kk k2 : Nat) (dk : Array (El W0 ok)), s5 = .int .i64 kk ∧ s7 = .int .i64 k2 ∧ 1 ≤ k2 ∧ k + k2 ≤ d.size ∧ d.size - (k + k2) ≤ gh ∧ Aside0 (SW El.v w b 0 dk wr) ∧ Aside0 (CompIv El.l d (k + k2) kk dk))
          case atStart => exact ⟨k, 1, d, rfl, rfl, Nat.le_refl _, by omega, by omega, ⟨(SW.start HH.out).drewN _⟩, ⟨CompIv.start A.out (by omega) hlt (by rw [B.out.1, B.out.2]; exact HD.out)⟩⟩
          case round =>
            obtain ⟨kk, k2, dk, rfl, rfl, h1, hle, hg2, W2, I2⟩ := hrel
            have hkk := I2.out.lt
            have hds := I2.out.size
            have hHk : Holds El.v wr b 0 dk := W2.out.holds HL.out HH.out hds
            by_cases hlt2 : k + k2 < d.size
            · obtain ⟨cm, _⟩ := hHk (k + k2) (by omega)
              obtain ⟨cp, _⟩ := hHk (k + k2 - 1) (by omega)
              obtain ⟨ck, fk⟩ := hHk kk (by omega)
              rw [I2.out.high (k + k2) (by omega), Nat.zero_add] at cm
              rw [I2.out.high (k + k2 - 1) (by omega), Nat.zero_add, show k + k2 - 1 = k + (k2 - 1) by omega] at cp
              rw [Nat.zero_add] at ck fk
              clear hHk
              generalize hu : d[k + k2]! = u at cm
              generalize hv : d[k + (k2 - 1)]! = v at cp
              generalize dk[kk]! = old at ck
              have hv' : d[k + k2 - 1]! = v := by rw [show k + k2 - 1 = k + (k2 - 1) by omega]; exact hv
              have C : Aside0 (d[k + k2]! = u ∧ d[k + k2 - 1]! = v) := ⟨⟨hu, hv'⟩⟩
              clear hu hv hv'
              have i1 : IntKind.i64.wrap ((k2 : Int) - 1) = (k2 : Int) - 1 := IntWalk.i64_in _ (by omega)
              have i2 : (1 : Int) ≤ (k2 : Int) := by omega
              have i3 : ((k2 : Int) - 1).toNat = k2 - 1 := by omega
              have i4 : (k2 : Int) - 1 < ((d.size - k : Nat) : Int) := by omega
              have i5 : (0 : Int) ≤ (k2 : Int) - 1 := by omega
              have i6 : (k2 : Int) < ((d.size - k : Nat) : Int) := by omega
              by_cases huv : u.l = v.l
              · have HU := aM huv
                clear huv
                go_wp2_with fail
                go_quiet ((exact Calls.quiet_of (v := .bool true) ((HE.out _ dk (W2.out.drewN _) u v).mono fun _ _ hh => ⟨by rw [hh.1, decide_eq_true HU.out], hh.2⟩)))
                go_wp2
                go_roundg (d.size - (k + (k2 + 1)))
                case measure => omega
                case rel => exact ⟨kk, k2 + 1, dk, rfl, by go_num, by omega, by omega, Nat.le_refl _, ⟨W2.out.drewN _⟩, ⟨I2.out.skip hlt2 (by rw [C.out.1, C.out.2]; exact HU.out)⟩⟩
              · have HU := aM huv
                clear huv
                go_wp2_with fail
                go_quiet ((exact Calls.quiet_of (v := .bool false) ((HE.out _ dk (W2.out.drewN _) u v).mono fun _ _ hh => ⟨by rw [hh.1, decide_eq_false HU.out], hh.2⟩)))
                go_wp2
                go_roundg (d.size - (k + (k2 + 1)))
                case measure => omega
                case rel => exact ⟨kk + 1, k2 + 1, dk.setIfInBounds kk u, by go_num, by go_num, by omega, by omega, Nat.le_refl _, ⟨by have := SW_set (W2.out.drewN nq) HL.out kk (by omega) u; rwa [Nat.zero_add] at this⟩, ⟨by have := I2.out.keep hlt2 (by rw [C.out.1, C.out.2]; exact HU.out); rwa [C.out.1] at this⟩⟩
            · have hend : k + k2 = d.size := by omega
              have hcl : ∀ ty, (Builtin.clear_ #[61] ty #[.slice (some ⟨b, kk, none⟩) (d.size - kk) (cap - kk)]).run Try.prog wr = .ok (.tuple #[]) (wr.setCells b kk (List.replicate (d.size - kk) (default : El W0 ok).v)) :=
                fun ty => Lib.run_clear_slice wr _ _ ty _ Try.underlying61 Try.zeroValue24 rfl rfl b kk _ _ (by omega) (fun j hj => by have := (hHk (kk + j) (by omega)).1; rw [Nat.zero_add] at this; rw [this]; rfl) (fun j hj => by have := (hHk (kk + j) (by omega)).2; rw [Nat.zero_add] at this; exact this)
              clear hHk
              have i1 : ¬ (k2 : Int) < ((d.size - k : Nat) : Int) := by omega
              have i2 : kk < cap := by omega
              go_wp2
              go_ret
              obtain ⟨dk', hs', ht', n', os', hw'⟩ := SW_clear W2.out HL.out kk (List.replicate (d.size - kk) default) (by rw [List.length_replicate]; omega)
              rw [Nat.zero_add, List.map_replicate] at hw'
              have hI := I2.out
              rw [hend] at hI
              refine ⟨kk, rfl, dk', by omega, by omega, ?_, ?_, n', os', hw'⟩
              · (try rw [← List.map_take]); rw [ht', hI.low, List.take_of_length_le (by simp)]
              · rw [ht']; have := hI.sub; rwa [List.take_of_length_le (l := d.toList) (by simp)] at this
        · have HD := aM hdup
          clear hdup
          have i1 : IntKind.i64.wrap ((k : Int) - 1) = (k : Int) - 1 := IntWalk.i64_in _ (by omega)
          have i2 : (1 : Int) ≤ (k : Int) := by omega
          have i3 : ((k : Int) - 1).toNat = k - 1 := by omega
          have i4 : (k : Int) - 1 < (d.size : Int) := by omega
          have i5 : (0 : Int) ≤ (k : Int) - 1 := by omega
          go_wp2_with fail
          go_quiet ((exact quietAt (v := .bool false) ((HE.out _ d ((SW.start HH.out).drewN (q + _)) x y).mono fun _ _ hh => ⟨by rw [hh.1, decide_eq_false HD.out], hh.2⟩)))
          go_wp2
          go_roundg (d.size - (k + 1))
          case measure => omega
          case rel => exact ⟨k + 1, q + nq, by omega, by omega, Nat.le_refl _, by go_num, rfl, A.out.step (by omega) hlt (by rw [B.out.1, B.out.2]; exact HD.out)⟩
      · obtain rfl : k = d.size := by omega
        have A := aM hall
        clear hall
        go_wp2
        go_ret
        obtain ⟨n', os', hw'⟩ := (SW.start HH.out).drewN q
        refine ⟨d.size, d, n', os', rfl, Nat.le_refl _, rfl, ?_, by rw [List.take_of_length_le (by simp)]; exact List.Sublist.refl _, hw'⟩
        have := A.out.2
        rw [List.take_of_length_le (by rw [HK.out]; omega)] at this
        rw [List.take_of_length_le (by simp), this]
theorem impl_Cell_141__impl_equalShapes.raw {W0 w : World} {ok : Nat → Prop} {base b cap : Nat} (d : Array (El W0 ok)) (hA : At w base b cap d) (hS : Same W0 w ok) (hg : ¬ ok b) (h0 : 0 < d.size) (hsz : d.size < 4611686018427387904) :
    Calls Try.prog 141 #[.slice (some ⟨b, 0, none⟩) d.size cap, .func (.func 142) #[] #[]] w fun e w' => ∃ (q : Nat) (dk : Array (El W0 ok)) (n : Nat) (os : Array Obj), e = .returned (.slice (some ⟨b, 0, none⟩) q cap) ∧ q ≤ dk.size ∧ dk.size = d.size ∧ (dk.toList.take q).map El.l = compF (d.toList.map El.l) ∧ (dk.toList.take q).Sublist d.toList ∧ w' = sortWorld El.v w b 0 n dk os :=
  impl_Cell_141__impl_equalShapes.rawE d hA hS hg h0 hsz fun W dk hW x y => by
    obtain ⟨n, os, rfl⟩ := hW
    have hgw := sortW1_grown El.v w b n dk os
    obtain ⟨A0, c0, e0, hc0, hC0⟩ := x.now (hS.grown hgw hg)
    obtain ⟨A1, c1, e1, hc1, hC1⟩ := y.now (hS.grown hgw hg)
    obtain ⟨k, hk⟩ := equal_rounds x.l y.l hC0.2.1
    rw [e0, e1]
    exact (impl_equalShapes.calls k A0 c0 x.l A1 c1 y.l _ _ hC0 hc0 hC1 hc1 hk).mono fun _ _ hh => ⟨hh.1, hh.2.out⟩
open Go.Sort
def impl_tidyShapes.f (l0 : List (List S59)) : Option (List (List S59)) := if 0 < l0.length ∧ l0.length < 4611686018427387904 then some (compF (sortS l0)) else none
theorem szs_eq {w : World} {ok : Nat → Prop} {d d1 : Array (El w ok)} (h : d1.toList.Perm d.toList) : d.size = d1.size := by
  have := h.length_eq
  rw [Array.length_toList, Array.length_toList] at this
  exact this.symm
set_option maxHeartbeats 4000000 in
theorem impl_tidyShapes.raw {w : World} {ok : Nat → Prop} {base g cap : Nat} (d : Array (El w ok)) (hA : At w base g cap d) (hg : ¬ ok g) (h0 : 0 < d.size) (hsz : d.size < 4611686018427387904) :
    Calls Try.prog 124 #[.slice (some ⟨g, 0, none⟩) d.size cap] w fun e w' => ∃ dk : Array (El w ok), e = .returned (.slice (some ⟨g, 0, none⟩) dk.size cap) ∧ At w' base g cap dk ∧ Same w w' ok ∧ dk.toList.map El.l = compF (sortS (d.toList.map El.l)) ∧ ((∀ x ∈ dk.toList, x ∈ d.toList) ∧ ((d.toList.map El.j).Nodup → (dk.toList.map El.j).Nodup)) ∧ w.grownBy w' (some g) := by
  have HA := aM hA
  have HG := aM hg
  have H0 := aM h0
  have HZ := aM hsz
  clear hA hg h0 hsz
  go_enter Try.func124, Try.ntmps124
  go_wp2_with (first
    | (go_at_call 139; refine (impl_Cell_139__impl_compareShapes.raw d HA.out (Same.refl _ _) HG.out HZ.out).mono ?_; rintro e w1 ⟨rfl, d1, n1, os1, hp, hr, hw⟩; have HP := aM hp; have HR := aM hr; have HW := aM hw; have HS := aM (szs_eq hp); clear hp hr hw)
    | (go_at_call 141; have hC := impl_Cell_141__impl_equalShapes.raw (w := w1) (base := base) (cap := cap) d1 (by rw [HW.out]; exact HA.out.sorted HS.out.symm) (by rw [HW.out]; exact (Same.refl _ _).grown (sortW1_grown _ _ _ _ _ _) HG.out) HG.out (by rw [← HS.out]; exact H0.out) (by rw [← HS.out]; exact HZ.out); rw [← HS.out] at hC; refine hC.mono ?_; clear hC; rintro e w2 ⟨q, dk, n2, os2, rfl, hq, hs2, hl, hsub, hw2⟩; have H2 := aM (And.intro hq (And.intro hs2 (And.intro hl (And.intro hsub hw2)))); clear hq hs2 hl hsub hw2))
  go_ret
  obtain ⟨hq, hs2, hl, hsub, hw2⟩ := H2.out
  have g1 := sortW1_grown El.v w g n1 d1 os1
  rw [← HW.out] at g1
  have g2 := sortW1_grown El.v w1 g n2 dk os2
  rw [← hw2] at g2
  have hs1 := HS.out
  have A1 : At w1 base g cap d1 := by rw [HW.out]; exact HA.out.sorted hs1.symm
  have A2 : At w2 base g cap dk := by rw [hw2]; exact A1.sorted (hs2.trans hs1)
  have hz : (dk.toList.take q).toArray.size = q := by simp; omega
  refine ⟨(dk.toList.take q).toArray, by rw [hz]; rfl, A2.cut q hq, ((Same.refl _ _).grown g1 HG.out).grown g2 HG.out, by rw [← HR.out]; exact hl, ⟨fun x hx => HP.out.mem_iff.1 (hsub.mem hx), fun hn => ?_⟩, g1.trans g2⟩
  exact ((hsub.map El.j).nodup (((HP.out.map El.j).nodup_iff).2 hn))
theorem impl_tidyShapes.calls (P0_ : Nat → Prop) (u9000_ : Value) (l0 : List (List S59)) (r : List (List S59)) (w0 w : World) (hB : Below w0.heap.size w0 w) (ho0 : Kd.S (Kd.slice 59 k59) 24 w w0.heap.size P0_ u9000_ l0) (h : impl_tidyShapes.f l0 = some r) :
    Calls Try.prog 124 #[u9000_] w fun e w' => ∃ v0_ : Value, e = .returned (v0_) ∧ Kd.S (Kd.slice 59 k59) 24 w' w0.heap.size (fun k_ => (P0_ k_ ∨ w.heap.size ≤ k_)) v0_ r ∧ Below w0.heap.size w0 w' ∧ Kept w w' (fun k_ => some k_ = u9000_.ownBlock) := by
  unfold impl_tidyShapes.f at h
  by_cases hl : 0 < l0.length ∧ l0.length < 4611686018427387904
  · rw [if_pos hl] at h
    obtain rfl := Option.some.inj h
    obtain ⟨g, cap, rfl, _⟩ := Kd.S_form ho0 hl.1
    obtain ⟨hok, hn, f, d, hd, hA, hj, hM⟩ := S_open ho0
    have hdn : d.size = l0.length := by rw [← hd]; simp
    have hcon := impl_tidyShapes.raw d hA (fun h_ => h_.2 rfl) (by omega) (by omega)
    rw [hdn] at hcon
    refine hcon.mono ?_
    rintro e w' ⟨dk, rfl, hA2, hS2, hl2, ⟨hmem, hnod⟩, hgw⟩
    rw [hd] at hl2
    refine ⟨_, rfl, ?_, pw_below_grown hB (some g) hB.size hgw (fun k hk => by injection hk with hk; exact hk ▸ hA.base), ?_⟩
    · have h2 := S_close hok hA2 hS2 (hnod (by rw [hj]; exact List.nodup_range)) (fun x hx => hM x (hmem x hx))
      rw [hl2] at h2
      exact Kd.S_mono h2 (fun _ hk => .inl hk)
    · refine ⟨hgw.size, fun i hi hn => hgw.block i hi ?_⟩
      intro e
      injection e with e
      exact hn (e ▸ rfl)
  · rw [if_neg hl] at h
    exact absurd h (by simp)
def impl_forms.l0 : Nat → List (S59) → List (List (S59)) → Int → Int → Option ((List (List (S59))))
 | 0, _, _, _, _ => none
 | k + 1, x0, x5, x8, x9 => if x9 < x8 then ((impl_form.f k x0 x9).bind fun t831 => (if x5.length < 5864062014805 then (impl_forms.l0 k x0 (x5 ++ [t831]) x8 (wrap64 (x9 + 1))) else (none))) else (some x5)
def impl_forms.f (k : Nat) (l0 : List (S59)) (a1 : Int) : Option ((List (List (S59)))) := impl_forms.l0 k l0 (([] : List (List (S59)))) a1 0
theorem impl_forms.calls (k : Nat) (A0 : Option Addr) (c0 : Nat) (l0 : List (S59)) (a1 : Int) (r : List (List (S59))) (w : World) (hr0 : Kd.C k59 w A0 l0.length l0) (hc0 : l0.length ≤ c0) (h : impl_forms.f k l0 a1 = some r) :
  Calls Try.prog 125 #[.slice A0 l0.length c0, .int .i64 a1] w fun e w' => ∃ v0_ : Value, e = .returned (v0_) ∧ Kd.S (Kd.slice 59 k59) 24 w' w.heap.size (fun _ => True) v0_ r ∧ Below w.heap.size w w' := by
 have HR0 := aM hr0
 have HC0 := aM hc0
 clear hr0 hc0
 have HB := aM (Below.refl w.heap.size w)
 have H : (impl_forms.l0 k l0 (([] : List (List (S59)))) a1 0) = some r := h
 clear h
 obtain ⟨y828, hy828⟩ : ∃ y_ : List (List (S59)), y_ = (([] : List (List (S59)))) := ⟨_, rfl⟩
 replace H : (impl_forms.l0 k l0 y828 a1 0) = some r := zy H hy828
 have Ny828 := aM hy828
 clear hy828
 have H' := aM H
 clear H
 go_enter Try.func125, Try.ntmps125
 go_wp2_with (first | ((with_reducible refine gate_dst (N := 7) rfl ?_); refine Kd.S_lit (Kd.slice 59 k59) _ 24 ?hg (N := 7) ?hd (xs := ([] : List (List (S59)))) (inner := []) (ok := fun _ => True) (okp := fun _ => True) ?hr ?hp (fun _ hk => hk) trivial (Below.refl _ _) (Nat.le_refl _) (by simp) ?_; (case hd => rfl); (case hg => rfl); (case hr => first | (go_simp; done) | (go_simp; rfl)); (case hp => exact (Reps.none _ _)); intro v829 w3 ho4 hb hg_ hnew_; clear hg_ hnew_; (first | rw [← Ny828.out] at ho4 | (simp only [Int.reduceToNat] at ho4; rw [← Ny828.out] at ho4)); have n0_ := aM (Kd.S_lower ho4 (below_size zb)); have n1_ := aM (below_step zb hb); clear HB; have HO830 := n0_; have HB := n1_; clear n0_ n1_; clear hb ho4))
 go_loopg [5, 9] k (fun kq v5 v9 w' => ∃ (x5_1 : List (List (S59))) (x9_1 : Int), v9 = .int .i64 x9_1 ∧ Aside0 (impl_forms.l0 kq l0 x5_1 a1 x9_1 = some r) ∧ Aside0 (kq ≤ k) ∧ Aside0 (Kd.S (Kd.slice 59 k59) 24 w' w.heap.size (fun _ => True) v5 x5_1) ∧ Aside0 (Below w.heap.size w w'))
 case atStart => exact ⟨(y828), (0), zr, H', ⟨Nat.le_refl _⟩, ⟨mS_ HO830.out⟩, ⟨zb⟩⟩
 case round =>
  clear H'
  try clear c1
  try clear p2
  obtain ⟨x5_1, x9_1, rfl, HA, HK1, HO_5, HB⟩ := hrel
  cases gk with
  | zero => exact absurd HA.out (by simp [impl_forms.l0])
  | succ k1 =>
   have H := HA.out
   clear HA
   simp only [impl_forms.l0] at H
   by_cases c5 : x9_1 < a1
   rotate_left
   ·rw [if_neg c5] at H
    have c5b0 : decide (x9_1 < a1) = false := decide_eq_false c5
    clear c5
    obtain rfl := Option.some.inj H
    go_wp2
    go_ret
    exact ⟨_, zw, mS_ HO_5.out, zb⟩
   rw [if_pos c5] at H
   have c5b0 : decide (x9_1 < a1) = true := decide_eq_true c5
   clear c5
   replace H := Option.bind_eq_some_iff.mp H
   obtain ⟨t831, A60, H⟩ := H
   replace H : (if x5_1.length < 5864062014805 then (impl_forms.l0 k1 l0 (x5_1 ++ [t831]) a1 (wrap64 (x9_1 + 1))) else (none)) = some r := H
   have A6 := aM A60
   clear A60
   by_cases c7 : x5_1.length < 5864062014805
   rotate_left
   ·rw [if_neg c7] at H
    exact absurd H (by simp)
   rw [if_pos c7] at H
   have LMc7 := aM c7
   clear c7
   obtain ⟨y834, hy834⟩ : ∃ y_ : List (List (S59)), y_ = (x5_1 ++ [t831]) := ⟨_, rfl⟩
   replace H : (impl_forms.l0 k1 l0 y834 a1 (wrap64 (x9_1 + 1))) = some r := zy H hy834
   have Ny834 := aM hy834
   clear hy834
   have H' := aM H
   clear H
   go_wp2_with (first | ((with_reducible refine gate_callee (f := 69) rfl ?_); refine goesL_ (some 15) rfl rfl Try.func69 (by kernel_rfl) rfl #[.slice A0 l0.length c0, .int .i64 x9_1] rfl zm ?_; (with_reducible refine (impl_form.calls k1 _ _ l0 x9_1 t831 _ ?side1 ?side2 A6.out).mono ?_); (case side1 => repeat (first | exact (Kd.C_below HR0.out HB.out) | (with_reducible refine Kd.C_alloc ?_ _) | (with_reducible refine Kd.C_drewN ?_ _) | (with_reducible refine Kd.C_drew ?_))); (case side2 => exact HC0.out); rintro e w8 ⟨v832, rfl, ho0, hb⟩; refine ⟨_, rfl, ?_⟩; have n0_ := aM (Kd.S_elder' (mS_ HO_5.out) (Kd.R_base ho0) hb); have n1_ := aM (Kd.R_lower ho0 (below_size zb)); have n2_ := aM (below_step zb hb); clear HO_5 HB; have HO_5 := n0_; have HO833 := n1_; have HB := n2_; clear n0_ n1_ n2_; (try clear hb); (try clear hb2); (try clear hk); (try clear hi); (try clear ho0); obtain ⟨Ao10, co10, eo10⟩ := Kd.R_slice HO833.out; subst eo10) | ((with_reducible refine gate_builtin (b := .append) (xs := #[.tmp 12, .tmp 16]) rfl ?_); at_builtin; refine Kd.S_append (Kd.slice 59 k59) (w0 := w) w.heap.size rfl (.tmp 12) (.tmp 16) 61 24 (.slice none 0 0) 24 rfl Try.underlying61 info24 rfl (by decide) (by omega) u5 x5_1 t831 [.slice Ao10 t831.length co10] (fun _ => True) (fun k_ => some k_ = (.slice Ao10 t831.length co10 : Value).ownBlock) rfl rfl ?aP (fun k_ hk_ => ((Kd.R_mono (ok' := fun k_ => ((fun _ => True)) k_ ∧ some k_ ≠ (u5 : Value).ownBlock) (Kd.R_apart' (HO833.out) (Kd.S_typed HO_5.out) (by decide)) (fun k_ hk => ⟨trivial, hk.2⟩))).1 k_ hk_.symm) ?aF ?aO ?aB ?aS ?aL ?_; (case aP => exact Kd.M_row (Kd.R_mono (Kd.R_tight rfl (Kd.R_mono (ok' := fun k_ => ((fun _ => True)) k_ ∧ some k_ ≠ (u5 : Value).ownBlock) (Kd.R_apart' (HO833.out) (Kd.S_typed HO_5.out) (by decide)) (fun k_ hk => ⟨trivial, hk.2⟩))) (fun _ h_ => h_))); (case aB => exact zb); (case aF => exact (fun _ _ => trivial)); (case aO => exact (by (with_reducible repeat (first | apply Kd.S_alloc | apply Kd.S_drewN | apply Kd.S_drew)); exact Kd.S_mono HO_5.out (fun k_ hk => ⟨trivial, fun e_ => hk.2 e_⟩))); (case aS => exact (below_size zb)); (case aL => have := LMc7.out; omega); intro v835 w9 ho hb hg hat; rw [← Ny834.out] at ho; have n0_ := aM (hb); have n1_ := aM (ho); clear HB HO_5 HO833; have HB := n0_; have HO836 := n1_; clear n0_ n1_; clear ho hb hg hat))
   go_roundg k1
   case measure => have := HK1.out; omega
   case rel => exact ⟨(y834), (wrap64 (x9_1 + 1)), zr, H', ⟨by have := HK1.out; omega⟩, ⟨mS_ HO836.out⟩, ⟨zb⟩⟩
def impl_formsOf.f (k : Nat) (l0_0 : List (S59)) (a0_1 : Int) (a0_2 : Bool) : Option ((List (List (S59)))) := if a0_2 = true then ((impl_forms.f k l0_0 8).bind fun t838 => ((impl_tidyShapes.f t838).bind fun t841 => (some t841))) else ((impl_forms.f k l0_0 4).bind fun t844 => ((impl_tidyShapes.f t844).bind fun t847 => (some t847)))
theorem impl_formsOf.calls (k : Nat) (A0_0 : Option Addr) (c0_0 : Nat) (l0_0 : List (S59)) (a0_1 : Int) (a0_2 : Bool) (r : List (List (S59))) (w : World) (hr0_0 : Kd.C k59 w A0_0 l0_0.length l0_0) (hc0_0 : l0_0.length ≤ c0_0) (h : impl_formsOf.f k l0_0 a0_1 a0_2 = some r) :
  Calls Try.prog 90 #[.agg #[.slice A0_0 l0_0.length c0_0, .int .i64 a0_1, .bool a0_2]] w fun e w' => ∃ v0_ : Value, e = .returned (v0_) ∧ Kd.S (Kd.slice 59 k59) 24 w' w.heap.size (fun _ => True) v0_ r ∧ Below w.heap.size w w' := by
 have hu51 := Try.underlying51
 have HR0_0 := aM hr0_0
 have HC0_0 := aM hc0_0
 clear hr0_0 hc0_0
 have HB := aM (Below.refl w.heap.size w)
 have H : (if a0_2 = true then ((impl_forms.f k l0_0 8).bind fun t838 => ((impl_tidyShapes.f t838).bind fun t841 => (some t841))) else ((impl_forms.f k l0_0 4).bind fun t844 => ((impl_tidyShapes.f t844).bind fun t847 => (some t847)))) = some r := h
 clear h
 by_cases c2 : a0_2 = true
 ·subst c2
  have H1 : ((impl_forms.f k l0_0 8).bind fun t838 => ((impl_tidyShapes.f t838).bind fun t841 => (some t841))) = some r := by rw [if_pos rfl] at H; exact H
  clear H
  have H := H1
  clear H1
  replace H := Option.bind_eq_some_iff.mp H
  obtain ⟨t838, A30, H⟩ := H
  replace H : ((impl_tidyShapes.f t838).bind fun t841 => (some t841)) = some r := H
  have A3 := aM A30
  clear A30
  replace H := Option.bind_eq_some_iff.mp H
  obtain ⟨t841, A40, H⟩ := H
  replace H : (some t841) = some r := H
  have A4 := aM A40
  clear A40
  obtain rfl := Option.some.inj H
  go_enter Try.func90, Try.ntmps90
  go_wp2_with (first | ((with_reducible refine gate_dst (N := 1) rfl ?_); refine zx 1 #[.slice A0_0 l0_0.length c0_0, .int .i64 a0_1, .bool true] 51 ?_; intro gb837 hg w5 hbox hb; have n0_ := aM (below_step zb hb); have n1_ := aM (hbox); have n2_ := aM ((ze : w.heap.size ≤ gb837)); have n3_ := aM ((ze : w.heap.size ≤ gb837)); clear HB; have HB := n0_; have BK837 := n1_; have GW837 := n2_; have GE837 := n3_; clear n0_ n1_ n2_ n3_ hb hbox hg; have hcz6_0 : w5.cell? ⟨gb837, 0, none⟩ = some (.slice A0_0 l0_0.length c0_0) := (blk_cell BK837.out 0).trans rfl; have hcz6_1 : w5.cell? ⟨gb837, 1, none⟩ = some (.int .i64 a0_1) := (blk_cell BK837.out 1).trans rfl; have hcz6_2 : w5.cell? ⟨gb837, 2, none⟩ = some (.bool true) := (blk_cell BK837.out 2).trans rfl; have hfz6_0 := blk_frozen BK837.out 0; have hfz6_1 := blk_frozen BK837.out 1; have hfz6_2 := blk_frozen BK837.out 2) | ((with_reducible refine gate_callee (f := 125) rfl ?_); refine goesL_ (some 9) rfl rfl Try.func125 (by kernel_rfl) rfl #[.slice A0_0 l0_0.length c0_0, .int .i64 8] rfl zm ?_; (with_reducible refine (impl_forms.calls k _ _ l0_0 8 t838 _ ?side1 ?side2 A3.out).mono ?_); (case side1 => repeat (first | exact (Kd.C_below HR0_0.out HB.out) | (with_reducible refine Kd.C_alloc ?_ _) | (with_reducible refine Kd.C_drewN ?_ _) | (with_reducible refine Kd.C_drew ?_))); (case side2 => exact HC0_0.out); rintro e w7 ⟨v839, rfl, ho0, hb⟩; refine ⟨_, rfl, ?_⟩; have n0_ := aM (Kd.S_lower ho0 (below_size (zs GE837.out))); have n1_ := aM (blk_below (g := gb837) (o := .cells #[.slice A0_0 l0_0.length c0_0, .int .i64 a0_1, .bool true] 51 (0, 0)) (mB_ BK837.out) hb); have n2_ := aM (below_step (zs GE837.out) hb); clear BK837 HB; have HO840 := n0_; have BK837 := n1_; have HB := n2_; clear n0_ n1_ n2_; (try clear hb); (try clear hb2); (try clear hk); (try clear hi); (try clear ho0); obtain ⟨Ao8, co8, eo8⟩ := Kd.S_slice HO840.out; subst eo8) | ((with_reducible refine gate_callee (f := 124) rfl ?_); refine goesL_ (some 10) rfl rfl Try.func124 (by kernel_rfl) rfl #[.slice Ao8 t838.length co8] rfl zm ?_; (with_reducible refine (impl_tidyShapes.calls (fun k_ => True) (.slice Ao8 t838.length co8) t838 t841 w _ ?side1 ?side2 A4.out).mono ?_); (case side1 => repeat (first | (with_reducible first | exact HB.out | apply below_alloc | apply pw_below_drewN | apply below_drew1 | refine below_set ?_ GE837.out) | exact HB.out)); (case side2 => exact HO840.out); rintro e w9 ⟨v842, rfl, ho0, hb, hkp⟩; refine ⟨_, rfl, ?_⟩; have n0_ := aM (blk_kept (mB_ BK837.out) hkp (fun hs_ => (fun e_ => (Kd.S_ne HO840.out BK837.out (by decide)) e_) hs_)); have n1_ := aM (Kd.S_mono (ok' := fun k_ => True) ho0 (fun k_ hk_ => trivial)); have n2_ := aM (hb); clear BK837 HB HO840; have BK837 := n0_; have HO843 := n1_; have HB := n2_; clear n0_ n1_ n2_; (try clear hb); (try clear hkp); (try clear ho0)))
  go_ret
  exact ⟨_, zw, mS_ HO843.out, zs GE837.out⟩
 replace c2 := Bool.eq_false_iff.mpr c2
 subst c2
 have H1 : ((impl_forms.f k l0_0 4).bind fun t844 => ((impl_tidyShapes.f t844).bind fun t847 => (some t847))) = some r := by rw [if_neg (show ¬ (false = true) by decide)] at H; exact H
 clear H
 have H := H1
 clear H1
 replace H := Option.bind_eq_some_iff.mp H
 obtain ⟨t844, A100, H⟩ := H
 replace H : ((impl_tidyShapes.f t844).bind fun t847 => (some t847)) = some r := H
 have A10 := aM A100
 clear A100
 replace H := Option.bind_eq_some_iff.mp H
 obtain ⟨t847, A110, H⟩ := H
 replace H : (some t847) = some r := H
 have A11 := aM A110
 clear A110
 obtain rfl := Option.some.inj H
 go_enter Try.func90, Try.ntmps90
 go_wp2_with (first | ((with_reducible refine gate_dst (N := 1) rfl ?_); refine zx 1 #[.slice A0_0 l0_0.length c0_0, .int .i64 a0_1, .bool false] 51 ?_; intro gb837 hg w12 hbox hb; have n0_ := aM (below_step zb hb); have n1_ := aM (hbox); have n2_ := aM ((ze : w.heap.size ≤ gb837)); have n3_ := aM ((ze : w.heap.size ≤ gb837)); clear HB; have HB := n0_; have BK837 := n1_; have GW837 := n2_; have GE837 := n3_; clear n0_ n1_ n2_ n3_ hb hbox hg; have hcz13_0 : w12.cell? ⟨gb837, 0, none⟩ = some (.slice A0_0 l0_0.length c0_0) := (blk_cell BK837.out 0).trans rfl; have hcz13_1 : w12.cell? ⟨gb837, 1, none⟩ = some (.int .i64 a0_1) := (blk_cell BK837.out 1).trans rfl; have hcz13_2 : w12.cell? ⟨gb837, 2, none⟩ = some (.bool false) := (blk_cell BK837.out 2).trans rfl; have hfz13_0 := blk_frozen BK837.out 0; have hfz13_1 := blk_frozen BK837.out 1; have hfz13_2 := blk_frozen BK837.out 2) | ((with_reducible refine gate_callee (f := 125) rfl ?_); refine goesL_ (some 9) rfl rfl Try.func125 (by kernel_rfl) rfl #[.slice A0_0 l0_0.length c0_0, .int .i64 4] rfl zm ?_; (with_reducible refine (impl_forms.calls k _ _ l0_0 4 t844 _ ?side1 ?side2 A10.out).mono ?_); (case side1 => repeat (first | exact (Kd.C_below HR0_0.out HB.out) | (with_reducible refine Kd.C_alloc ?_ _) | (with_reducible refine Kd.C_drewN ?_ _) | (with_reducible refine Kd.C_drew ?_))); (case side2 => exact HC0_0.out); rintro e w14 ⟨v845, rfl, ho0, hb⟩; refine ⟨_, rfl, ?_⟩; have n0_ := aM (Kd.S_lower ho0 (below_size (zs GE837.out))); have n1_ := aM (blk_below (g := gb837) (o := .cells #[.slice A0_0 l0_0.length c0_0, .int .i64 a0_1, .bool false] 51 (0, 0)) (mB_ BK837.out) hb); have n2_ := aM (below_step (zs GE837.out) hb); clear BK837 HB; have HO846 := n0_; have BK837 := n1_; have HB := n2_; clear n0_ n1_ n2_; (try clear hb); (try clear hb2); (try clear hk); (try clear hi); (try clear ho0); obtain ⟨Ao15, co15, eo15⟩ := Kd.S_slice HO846.out; subst eo15) | ((with_reducible refine gate_callee (f := 124) rfl ?_); refine goesL_ (some 10) rfl rfl Try.func124 (by kernel_rfl) rfl #[.slice Ao15 t844.length co15] rfl zm ?_; (with_reducible refine (impl_tidyShapes.calls (fun k_ => True) (.slice Ao15 t844.length co15) t844 t847 w _ ?side1 ?side2 A11.out).mono ?_); (case side1 => repeat (first | (with_reducible first | exact HB.out | apply below_alloc | apply pw_below_drewN | apply below_drew1 | refine below_set ?_ GE837.out) | exact HB.out)); (case side2 => exact HO846.out); rintro e w16 ⟨v848, rfl, ho0, hb, hkp⟩; refine ⟨_, rfl, ?_⟩; have n0_ := aM (blk_kept (mB_ BK837.out) hkp (fun hs_ => (fun e_ => (Kd.S_ne HO846.out BK837.out (by decide)) e_) hs_)); have n1_ := aM (Kd.S_mono (ok' := fun k_ => True) ho0 (fun k_ hk_ => trivial)); have n2_ := aM (hb); clear BK837 HB HO846; have BK837 := n0_; have HO849 := n1_; have HB := n2_; clear n0_ n1_ n2_; (try clear hb); (try clear hkp); (try clear ho0)))
 go_ret
 exact ⟨_, zw, mS_ HO849.out, zs GE837.out⟩
def laws_eqPiece.f (k : Nat) (l0_0 : List (S59)) (a0_1 : Int) (a0_2 : Bool) (l1_0 : List (S59)) (a1_1 : Int) (a1_2 : Bool) : Option (Bool) := (laws_eqCellS.f k l0_0 l1_0).bind fun t857 => (if t857 = true then (if a0_1 = a1_1 then (if (a0_2 != a1_2) = true then (some false) else (some true)) else (some false)) else (some false))
theorem laws_eqPiece.calls (k : Nat) (A0_0 : Option Addr) (c0_0 : Nat) (l0_0 : List (S59)) (a0_1 : Int) (a0_2 : Bool) (A1_0 : Option Addr) (c1_0 : Nat) (l1_0 : List (S59)) (a1_1 : Int) (a1_2 : Bool) (r : Bool) (w : World) (hr0_0 : Kd.C k59 w A0_0 l0_0.length l0_0) (hc0_0 : l0_0.length ≤ c0_0) (hr1_0 : Kd.C k59 w A1_0 l1_0.length l1_0) (hc1_0 : l1_0.length ≤ c1_0) (h : laws_eqPiece.f k l0_0 a0_1 a0_2 l1_0 a1_1 a1_2 = some r) :
  Calls Try.prog 36 #[.agg #[.slice A0_0 l0_0.length c0_0, .int .i64 a0_1, .bool a0_2], .agg #[.slice A1_0 l1_0.length c1_0, .int .i64 a1_1, .bool a1_2]] w fun e w' => e = .returned (.bool r) ∧ Below w.heap.size w w' := by
 have hu51 := Try.underlying51
 have HR0_0 := aM hr0_0
 have HC0_0 := aM hc0_0
 clear hr0_0 hc0_0
 have HR1_0 := aM hr1_0
 have HC1_0 := aM hc1_0
 clear hr1_0 hc1_0
 have HB := aM (Below.refl w.heap.size w)
 have H : ((laws_eqCellS.f k l0_0 l1_0).bind fun t857 => (if t857 = true then (if a0_1 = a1_1 then (if (a0_2 != a1_2) = true then (some false) else (some true)) else (some false)) else (some false))) = some r := h
 clear h
 replace H := Option.bind_eq_some_iff.mp H
 obtain ⟨t857, A30, H⟩ := H
 replace H : (if t857 = true then (if a0_1 = a1_1 then (if (a0_2 != a1_2) = true then (some false) else (some true)) else (some false)) else (some false)) = some r := H
 have A3 := aM A30
 clear A30
 by_cases c4 : t857 = true
 rotate_left
 ·replace c4 := Bool.eq_false_iff.mpr c4
  subst c4
  have H1 : (some false) = some r := by rw [if_neg (show ¬ (false = true) by decide)] at H; exact H
  clear H
  have H := H1
  clear H1
  obtain rfl := Option.some.inj H
  go_enter Try.func36, Try.ntmps36
  go_wp2_with (first | ((with_reducible refine gate_dst (N := 2) rfl ?_); refine zx 2 #[.slice A0_0 l0_0.length c0_0, .int .i64 a0_1, .bool a0_2] 51 ?_; intro gb855 hg w31 hbox hb; have n0_ := aM (below_step zb hb); have n1_ := aM (hbox); have n2_ := aM ((ze : w.heap.size ≤ gb855)); have n3_ := aM ((ze : w.heap.size ≤ gb855)); clear HB; have HB := n0_; have BK855 := n1_; have GW855 := n2_; have GE855 := n3_; clear n0_ n1_ n2_ n3_; clear hb hbox hg) | ((with_reducible refine gate_dst (N := 3) rfl ?_); refine zx 3 #[.slice A1_0 l1_0.length c1_0, .int .i64 a1_1, .bool a1_2] 51 ?_; intro gb856 hg w32 hbox hb; have n0_ := aM (blk_below (g := gb855) (o := .cells #[.slice A0_0 l0_0.length c0_0, .int .i64 a0_1, .bool a0_2] 51 (0, 0)) (mB_ BK855.out) hb); have n1_ := aM (below_step (zs GE855.out) hb); have n2_ := aM (hbox); have n3_ := aM ((zf GE855.out : w.heap.size ≤ gb856)); have n4_ := aM ((zf GE855.out : w.heap.size ≤ gb856)); have n5_ := aM ((zl BK855.out : gb855 ≠ gb856)); have n6_ := aM ((zn BK855.out : gb856 ≠ gb855)); clear BK855 HB; have BK855 := n0_; have HB := n1_; have BK856 := n2_; have GW856 := n3_; have GE856 := n4_; have NB855_856 := n5_; have NB856_855 := n6_; clear n0_ n1_ n2_ n3_ n4_ n5_ n6_ hb hbox hg; have hnb33 := NB855_856.out; have hnc33 := NB856_855.out; have hcz34_0 : w32.cell? ⟨gb855, 0, none⟩ = some (.slice A0_0 l0_0.length c0_0) := (blk_cell BK855.out 0).trans rfl; have hcz34_1 : w32.cell? ⟨gb855, 1, none⟩ = some (.int .i64 a0_1) := (blk_cell BK855.out 1).trans rfl; have hcz34_2 : w32.cell? ⟨gb855, 2, none⟩ = some (.bool a0_2) := (blk_cell BK855.out 2).trans rfl; have hfz34_0 := blk_frozen BK855.out 0; have hfz34_1 := blk_frozen BK855.out 1; have hfz34_2 := blk_frozen BK855.out 2; have hcz35_0 : w32.cell? ⟨gb856, 0, none⟩ = some (.slice A1_0 l1_0.length c1_0) := (blk_cell BK856.out 0).trans rfl; have hcz35_1 : w32.cell? ⟨gb856, 1, none⟩ = some (.int .i64 a1_1) := (blk_cell BK856.out 1).trans rfl; have hcz35_2 : w32.cell? ⟨gb856, 2, none⟩ = some (.bool a1_2) := (blk_cell BK856.out 2).trans rfl; have hfz35_0 := blk_frozen BK856.out 0; have hfz35_1 := blk_frozen BK856.out 1; have hfz35_2 := blk_frozen BK856.out 2) | ((with_reducible refine gate_callee (f := 13) rfl ?_); refine goesL_ (some 9) rfl rfl Try.func13 (by kernel_rfl) rfl #[.slice A0_0 l0_0.length c0_0, .slice A1_0 l1_0.length c1_0] rfl zm ?_; (with_reducible refine (laws_eqCellS.calls k _ _ l0_0 _ _ l1_0 false _ ?side1 ?side2 ?side3 ?side4 A3.out).mono ?_); (case side1 => repeat (first | exact (Kd.C_below HR0_0.out HB.out) | (with_reducible refine Kd.C_alloc ?_ _) | (with_reducible refine Kd.C_drewN ?_ _) | (with_reducible refine Kd.C_drew ?_))); (case side2 => exact HC0_0.out); (case side3 => repeat (first | exact (Kd.C_below HR1_0.out HB.out) | (with_reducible refine Kd.C_alloc ?_ _) | (with_reducible refine Kd.C_drewN ?_ _) | (with_reducible refine Kd.C_drew ?_))); (case side4 => exact HC1_0.out); rintro e w36 ⟨rfl, hb⟩; refine ⟨_, rfl, ?_⟩; have n0_ := aM (blk_below (g := gb855) (o := .cells #[.slice A0_0 l0_0.length c0_0, .int .i64 a0_1, .bool a0_2] 51 (0, 0)) (mB_ BK855.out) hb); have n1_ := aM (blk_below (g := gb856) (o := .cells #[.slice A1_0 l1_0.length c1_0, .int .i64 a1_1, .bool a1_2] 51 (0, 0)) (mB_ BK856.out) hb); have n2_ := aM (below_step (zt GE855.out GE856.out) hb); clear BK855 BK856 HB; have BK855 := n0_; have BK856 := n1_; have HB := n2_; clear n0_ n1_ n2_; (try clear hb); (try clear hb2); (try clear hk); (try clear hi)))
  go_ret
  exact ⟨zw, zt GE855.out GE856.out⟩
 subst c4
 have H1 : (if a0_1 = a1_1 then (if (a0_2 != a1_2) = true then (some false) else (some true)) else (some false)) = some r := by rw [if_pos rfl] at H; exact H
 clear H
 have H := H1
 clear H1
 by_cases c5 : a0_1 = a1_1
 rotate_left
 ·rw [if_neg c5] at H
  have c5b0 : (a0_1 == a1_1) = false := beq_eq_false_iff_ne.mpr c5
  have c5b1 : (a0_1 != a1_1) = true := bne_iff_ne.mpr c5
  obtain rfl := Option.some.inj H
  go_enter Try.func36, Try.ntmps36
  go_wp2_with (first | ((with_reducible refine gate_dst (N := 2) rfl ?_); refine zx 2 #[.slice A0_0 l0_0.length c0_0, .int .i64 a0_1, .bool a0_2] 51 ?_; intro gb855 hg w23 hbox hb; have n0_ := aM (below_step zb hb); have n1_ := aM (hbox); have n2_ := aM ((ze : w.heap.size ≤ gb855)); have n3_ := aM ((ze : w.heap.size ≤ gb855)); clear HB; have HB := n0_; have BK855 := n1_; have GW855 := n2_; have GE855 := n3_; clear n0_ n1_ n2_ n3_; clear hb hbox hg) | ((with_reducible refine gate_dst (N := 3) rfl ?_); refine zx 3 #[.slice A1_0 l1_0.length c1_0, .int .i64 a1_1, .bool a1_2] 51 ?_; intro gb856 hg w24 hbox hb; have n0_ := aM (blk_below (g := gb855) (o := .cells #[.slice A0_0 l0_0.length c0_0, .int .i64 a0_1, .bool a0_2] 51 (0, 0)) (mB_ BK855.out) hb); have n1_ := aM (below_step (zs GE855.out) hb); have n2_ := aM (hbox); have n3_ := aM ((zf GE855.out : w.heap.size ≤ gb856)); have n4_ := aM ((zf GE855.out : w.heap.size ≤ gb856)); have n5_ := aM ((zl BK855.out : gb855 ≠ gb856)); have n6_ := aM ((zn BK855.out : gb856 ≠ gb855)); clear BK855 HB; have BK855 := n0_; have HB := n1_; have BK856 := n2_; have GW856 := n3_; have GE856 := n4_; have NB855_856 := n5_; have NB856_855 := n6_; clear n0_ n1_ n2_ n3_ n4_ n5_ n6_ hb hbox hg; have hnb25 := NB855_856.out; have hnc25 := NB856_855.out; have hcz26_0 : w24.cell? ⟨gb855, 0, none⟩ = some (.slice A0_0 l0_0.length c0_0) := (blk_cell BK855.out 0).trans rfl; have hcz26_1 : w24.cell? ⟨gb855, 1, none⟩ = some (.int .i64 a0_1) := (blk_cell BK855.out 1).trans rfl; have hcz26_2 : w24.cell? ⟨gb855, 2, none⟩ = some (.bool a0_2) := (blk_cell BK855.out 2).trans rfl; have hfz26_0 := blk_frozen BK855.out 0; have hfz26_1 := blk_frozen BK855.out 1; have hfz26_2 := blk_frozen BK855.out 2; have hcz27_0 : w24.cell? ⟨gb856, 0, none⟩ = some (.slice A1_0 l1_0.length c1_0) := (blk_cell BK856.out 0).trans rfl; have hcz27_1 : w24.cell? ⟨gb856, 1, none⟩ = some (.int .i64 a1_1) := (blk_cell BK856.out 1).trans rfl; have hcz27_2 : w24.cell? ⟨gb856, 2, none⟩ = some (.bool a1_2) := (blk_cell BK856.out 2).trans rfl; have hfz27_0 := blk_frozen BK856.out 0; have hfz27_1 := blk_frozen BK856.out 1; have hfz27_2 := blk_frozen BK856.out 2) | ((with_reducible refine gate_callee (f := 13) rfl ?_); refine goesL_ (some 9) rfl rfl Try.func13 (by kernel_rfl) rfl #[.slice A0_0 l0_0.length c0_0, .slice A1_0 l1_0.length c1_0] rfl zm ?_; (with_reducible refine (laws_eqCellS.calls k _ _ l0_0 _ _ l1_0 true _ ?side1 ?side2 ?side3 ?side4 A3.out).mono ?_); (case side1 => repeat (first | exact (Kd.C_below HR0_0.out HB.out) | (with_reducible refine Kd.C_alloc ?_ _) | (with_reducible refine Kd.C_drewN ?_ _) | (with_reducible refine Kd.C_drew ?_))); (case side2 => exact HC0_0.out); (case side3 => repeat (first | exact (Kd.C_below HR1_0.out HB.out) | (with_reducible refine Kd.C_alloc ?_ _) | (with_reducible refine Kd.C_drewN ?_ _) | (with_reducible refine Kd.C_drew ?_))); (case side4 => exact HC1_0.out); rintro e w28 ⟨rfl, hb⟩; refine ⟨_, rfl, ?_⟩; have n0_ := aM (blk_below (g := gb855) (o := .cells #[.slice A0_0 l0_0.length c0_0, .int .i64 a0_1, .bool a0_2] 51 (0, 0)) (mB_ BK855.out) hb); have n1_ := aM (blk_below (g := gb856) (o := .cells #[.slice A1_0 l1_0.length c1_0, .int .i64 a1_1, .bool a1_2] 51 (0, 0)) (mB_ BK856.out) hb); have n2_ := aM (below_step (zt GE855.out GE856.out) hb); clear BK855 BK856 HB; have BK855 := n0_; have BK856 := n1_; have HB := n2_; clear n0_ n1_ n2_; (try clear hb); (try clear hb2); (try clear hk); (try clear hi); have hcz29_0 : w28.cell? ⟨gb855, 0, none⟩ = some (.slice A0_0 l0_0.length c0_0) := (blk_cell BK855.out 0).trans rfl; have hcz29_1 : w28.cell? ⟨gb855, 1, none⟩ = some (.int .i64 a0_1) := (blk_cell BK855.out 1).trans rfl; have hcz29_2 : w28.cell? ⟨gb855, 2, none⟩ = some (.bool a0_2) := (blk_cell BK855.out 2).trans rfl; have hfz29_0 := blk_frozen BK855.out 0; have hfz29_1 := blk_frozen BK855.out 1; have hfz29_2 := blk_frozen BK855.out 2; have hcz30_0 : w28.cell? ⟨gb856, 0, none⟩ = some (.slice A1_0 l1_0.length c1_0) := (blk_cell BK856.out 0).trans rfl; have hcz30_1 : w28.cell? ⟨gb856, 1, none⟩ = some (.int .i64 a1_1) := (blk_cell BK856.out 1).trans rfl; have hcz30_2 : w28.cell? ⟨gb856, 2, none⟩ = some (.bool a1_2) := (blk_cell BK856.out 2).trans rfl; have hfz30_0 := blk_frozen BK856.out 0; have hfz30_1 := blk_frozen BK856.out 1; have hfz30_2 := blk_frozen BK856.out 2))
  go_ret
  exact ⟨zw, zt GE855.out GE856.out⟩
 rw [if_pos c5] at H
 have c5b0 : (a0_1 == a1_1) = true := beq_iff_eq.mpr c5
 have c5b1 : (a0_1 != a1_1) = false := bne_eq_false_iff_eq.mpr c5
 clear c5
 by_cases c6 : (a0_2 != a1_2) = true
 rotate_left
 ·rw [if_neg c6] at H
  have c6b0 : (a0_2 != a1_2) = false := by simpa using c6
  (try (have c6b1 : decide (a0_2 = a1_2) = true := by simpa using c6))
  (try (have c6b2 : (a0_2 == a1_2) = true := by simpa using c6))
  clear c6
  obtain rfl := Option.some.inj H
  go_enter Try.func36, Try.ntmps36
  go_wp2_with (first | ((with_reducible refine gate_dst (N := 2) rfl ?_); refine zx 2 #[.slice A0_0 l0_0.length c0_0, .int .i64 a0_1, .bool a0_2] 51 ?_; intro gb855 hg w15 hbox hb; have n0_ := aM (below_step zb hb); have n1_ := aM (hbox); have n2_ := aM ((ze : w.heap.size ≤ gb855)); have n3_ := aM ((ze : w.heap.size ≤ gb855)); clear HB; have HB := n0_; have BK855 := n1_; have GW855 := n2_; have GE855 := n3_; clear n0_ n1_ n2_ n3_; clear hb hbox hg) | ((with_reducible refine gate_dst (N := 3) rfl ?_); refine zx 3 #[.slice A1_0 l1_0.length c1_0, .int .i64 a1_1, .bool a1_2] 51 ?_; intro gb856 hg w16 hbox hb; have n0_ := aM (blk_below (g := gb855) (o := .cells #[.slice A0_0 l0_0.length c0_0, .int .i64 a0_1, .bool a0_2] 51 (0, 0)) (mB_ BK855.out) hb); have n1_ := aM (below_step (zs GE855.out) hb); have n2_ := aM (hbox); have n3_ := aM ((zf GE855.out : w.heap.size ≤ gb856)); have n4_ := aM ((zf GE855.out : w.heap.size ≤ gb856)); have n5_ := aM ((zl BK855.out : gb855 ≠ gb856)); have n6_ := aM ((zn BK855.out : gb856 ≠ gb855)); clear BK855 HB; have BK855 := n0_; have HB := n1_; have BK856 := n2_; have GW856 := n3_; have GE856 := n4_; have NB855_856 := n5_; have NB856_855 := n6_; clear n0_ n1_ n2_ n3_ n4_ n5_ n6_ hb hbox hg; have hnb17 := NB855_856.out; have hnc17 := NB856_855.out; have hcz18_0 : w16.cell? ⟨gb855, 0, none⟩ = some (.slice A0_0 l0_0.length c0_0) := (blk_cell BK855.out 0).trans rfl; have hcz18_1 : w16.cell? ⟨gb855, 1, none⟩ = some (.int .i64 a0_1) := (blk_cell BK855.out 1).trans rfl; have hcz18_2 : w16.cell? ⟨gb855, 2, none⟩ = some (.bool a0_2) := (blk_cell BK855.out 2).trans rfl; have hfz18_0 := blk_frozen BK855.out 0; have hfz18_1 := blk_frozen BK855.out 1; have hfz18_2 := blk_frozen BK855.out 2; have hcz19_0 : w16.cell? ⟨gb856, 0, none⟩ = some (.slice A1_0 l1_0.length c1_0) := (blk_cell BK856.out 0).trans rfl; have hcz19_1 : w16.cell? ⟨gb856, 1, none⟩ = some (.int .i64 a1_1) := (blk_cell BK856.out 1).trans rfl; have hcz19_2 : w16.cell? ⟨gb856, 2, none⟩ = some (.bool a1_2) := (blk_cell BK856.out 2).trans rfl; have hfz19_0 := blk_frozen BK856.out 0; have hfz19_1 := blk_frozen BK856.out 1; have hfz19_2 := blk_frozen BK856.out 2) | ((with_reducible refine gate_callee (f := 13) rfl ?_); refine goesL_ (some 9) rfl rfl Try.func13 (by kernel_rfl) rfl #[.slice A0_0 l0_0.length c0_0, .slice A1_0 l1_0.length c1_0] rfl zm ?_; (with_reducible refine (laws_eqCellS.calls k _ _ l0_0 _ _ l1_0 true _ ?side1 ?side2 ?side3 ?side4 A3.out).mono ?_); (case side1 => repeat (first | exact (Kd.C_below HR0_0.out HB.out) | (with_reducible refine Kd.C_alloc ?_ _) | (with_reducible refine Kd.C_drewN ?_ _) | (with_reducible refine Kd.C_drew ?_))); (case side2 => exact HC0_0.out); (case side3 => repeat (first | exact (Kd.C_below HR1_0.out HB.out) | (with_reducible refine Kd.C_alloc ?_ _) | (with_reducible refine Kd.C_drewN ?_ _) | (with_reducible refine Kd.C_drew ?_))); (case side4 => exact HC1_0.out); rintro e w20 ⟨rfl, hb⟩; refine ⟨_, rfl, ?_⟩; have n0_ := aM (blk_below (g := gb855) (o := .cells #[.slice A0_0 l0_0.length c0_0, .int .i64 a0_1, .bool a0_2] 51 (0, 0)) (mB_ BK855.out) hb); have n1_ := aM (blk_below (g := gb856) (o := .cells #[.slice A1_0 l1_0.length c1_0, .int .i64 a1_1, .bool a1_2] 51 (0, 0)) (mB_ BK856.out) hb); have n2_ := aM (below_step (zt GE855.out GE856.out) hb); clear BK855 BK856 HB; have BK855 := n0_; have BK856 := n1_; have HB := n2_; clear n0_ n1_ n2_; (try clear hb); (try clear hb2); (try clear hk); (try clear hi); have hcz21_0 : w20.cell? ⟨gb855, 0, none⟩ = some (.slice A0_0 l0_0.length c0_0) := (blk_cell BK855.out 0).trans rfl; have hcz21_1 : w20.cell? ⟨gb855, 1, none⟩ = some (.int .i64 a0_1) := (blk_cell BK855.out 1).trans rfl; have hcz21_2 : w20.cell? ⟨gb855, 2, none⟩ = some (.bool a0_2) := (blk_cell BK855.out 2).trans rfl; have hfz21_0 := blk_frozen BK855.out 0; have hfz21_1 := blk_frozen BK855.out 1; have hfz21_2 := blk_frozen BK855.out 2; have hcz22_0 : w20.cell? ⟨gb856, 0, none⟩ = some (.slice A1_0 l1_0.length c1_0) := (blk_cell BK856.out 0).trans rfl; have hcz22_1 : w20.cell? ⟨gb856, 1, none⟩ = some (.int .i64 a1_1) := (blk_cell BK856.out 1).trans rfl; have hcz22_2 : w20.cell? ⟨gb856, 2, none⟩ = some (.bool a1_2) := (blk_cell BK856.out 2).trans rfl; have hfz22_0 := blk_frozen BK856.out 0; have hfz22_1 := blk_frozen BK856.out 1; have hfz22_2 := blk_frozen BK856.out 2))
  go_ret
  exact ⟨zw, zt GE855.out GE856.out⟩
 rw [if_pos c6] at H
 have c6b0 : (a0_2 != a1_2) = true := c6
 (try (have c6b1 : decide (a0_2 = a1_2) = false := by simpa using c6))
 (try (have c6b2 : (a0_2 == a1_2) = false := by simpa using c6))
 (try (have c6b3 : ¬ (a0_2 = a1_2) := by simpa using c6))
 clear c6
 obtain rfl := Option.some.inj H
 go_enter Try.func36, Try.ntmps36
 go_wp2_with (first | ((with_reducible refine gate_dst (N := 2) rfl ?_); refine zx 2 #[.slice A0_0 l0_0.length c0_0, .int .i64 a0_1, .bool a0_2] 51 ?_; intro gb855 hg w7 hbox hb; have n0_ := aM (below_step zb hb); have n1_ := aM (hbox); have n2_ := aM ((ze : w.heap.size ≤ gb855)); have n3_ := aM ((ze : w.heap.size ≤ gb855)); clear HB; have HB := n0_; have BK855 := n1_; have GW855 := n2_; have GE855 := n3_; clear n0_ n1_ n2_ n3_; clear hb hbox hg) | ((with_reducible refine gate_dst (N := 3) rfl ?_); refine zx 3 #[.slice A1_0 l1_0.length c1_0, .int .i64 a1_1, .bool a1_2] 51 ?_; intro gb856 hg w8 hbox hb; have n0_ := aM (blk_below (g := gb855) (o := .cells #[.slice A0_0 l0_0.length c0_0, .int .i64 a0_1, .bool a0_2] 51 (0, 0)) (mB_ BK855.out) hb); have n1_ := aM (below_step (zs GE855.out) hb); have n2_ := aM (hbox); have n3_ := aM ((zf GE855.out : w.heap.size ≤ gb856)); have n4_ := aM ((zf GE855.out : w.heap.size ≤ gb856)); have n5_ := aM ((zl BK855.out : gb855 ≠ gb856)); have n6_ := aM ((zn BK855.out : gb856 ≠ gb855)); clear BK855 HB; have BK855 := n0_; have HB := n1_; have BK856 := n2_; have GW856 := n3_; have GE856 := n4_; have NB855_856 := n5_; have NB856_855 := n6_; clear n0_ n1_ n2_ n3_ n4_ n5_ n6_ hb hbox hg; have hnb9 := NB855_856.out; have hnc9 := NB856_855.out; have hcz10_0 : w8.cell? ⟨gb855, 0, none⟩ = some (.slice A0_0 l0_0.length c0_0) := (blk_cell BK855.out 0).trans rfl; have hcz10_1 : w8.cell? ⟨gb855, 1, none⟩ = some (.int .i64 a0_1) := (blk_cell BK855.out 1).trans rfl; have hcz10_2 : w8.cell? ⟨gb855, 2, none⟩ = some (.bool a0_2) := (blk_cell BK855.out 2).trans rfl; have hfz10_0 := blk_frozen BK855.out 0; have hfz10_1 := blk_frozen BK855.out 1; have hfz10_2 := blk_frozen BK855.out 2; have hcz11_0 : w8.cell? ⟨gb856, 0, none⟩ = some (.slice A1_0 l1_0.length c1_0) := (blk_cell BK856.out 0).trans rfl; have hcz11_1 : w8.cell? ⟨gb856, 1, none⟩ = some (.int .i64 a1_1) := (blk_cell BK856.out 1).trans rfl; have hcz11_2 : w8.cell? ⟨gb856, 2, none⟩ = some (.bool a1_2) := (blk_cell BK856.out 2).trans rfl; have hfz11_0 := blk_frozen BK856.out 0; have hfz11_1 := blk_frozen BK856.out 1; have hfz11_2 := blk_frozen BK856.out 2) | ((with_reducible refine gate_callee (f := 13) rfl ?_); refine goesL_ (some 9) rfl rfl Try.func13 (by kernel_rfl) rfl #[.slice A0_0 l0_0.length c0_0, .slice A1_0 l1_0.length c1_0] rfl zm ?_; (with_reducible refine (laws_eqCellS.calls k _ _ l0_0 _ _ l1_0 true _ ?side1 ?side2 ?side3 ?side4 A3.out).mono ?_); (case side1 => repeat (first | exact (Kd.C_below HR0_0.out HB.out) | (with_reducible refine Kd.C_alloc ?_ _) | (with_reducible refine Kd.C_drewN ?_ _) | (with_reducible refine Kd.C_drew ?_))); (case side2 => exact HC0_0.out); (case side3 => repeat (first | exact (Kd.C_below HR1_0.out HB.out) | (with_reducible refine Kd.C_alloc ?_ _) | (with_reducible refine Kd.C_drewN ?_ _) | (with_reducible refine Kd.C_drew ?_))); (case side4 => exact HC1_0.out); rintro e w12 ⟨rfl, hb⟩; refine ⟨_, rfl, ?_⟩; have n0_ := aM (blk_below (g := gb855) (o := .cells #[.slice A0_0 l0_0.length c0_0, .int .i64 a0_1, .bool a0_2] 51 (0, 0)) (mB_ BK855.out) hb); have n1_ := aM (blk_below (g := gb856) (o := .cells #[.slice A1_0 l1_0.length c1_0, .int .i64 a1_1, .bool a1_2] 51 (0, 0)) (mB_ BK856.out) hb); have n2_ := aM (below_step (zt GE855.out GE856.out) hb); clear BK855 BK856 HB; have BK855 := n0_; have BK856 := n1_; have HB := n2_; clear n0_ n1_ n2_; (try clear hb); (try clear hb2); (try clear hk); (try clear hi); have hcz13_0 : w12.cell? ⟨gb855, 0, none⟩ = some (.slice A0_0 l0_0.length c0_0) := (blk_cell BK855.out 0).trans rfl; have hcz13_1 : w12.cell? ⟨gb855, 1, none⟩ = some (.int .i64 a0_1) := (blk_cell BK855.out 1).trans rfl; have hcz13_2 : w12.cell? ⟨gb855, 2, none⟩ = some (.bool a0_2) := (blk_cell BK855.out 2).trans rfl; have hfz13_0 := blk_frozen BK855.out 0; have hfz13_1 := blk_frozen BK855.out 1; have hfz13_2 := blk_frozen BK855.out 2; have hcz14_0 : w12.cell? ⟨gb856, 0, none⟩ = some (.slice A1_0 l1_0.length c1_0) := (blk_cell BK856.out 0).trans rfl; have hcz14_1 : w12.cell? ⟨gb856, 1, none⟩ = some (.int .i64 a1_1) := (blk_cell BK856.out 1).trans rfl; have hcz14_2 : w12.cell? ⟨gb856, 2, none⟩ = some (.bool a1_2) := (blk_cell BK856.out 2).trans rfl; have hfz14_0 := blk_frozen BK856.out 0; have hfz14_1 := blk_frozen BK856.out 1; have hfz14_2 := blk_frozen BK856.out 2))
 go_ret
 exact ⟨zw, zt GE855.out GE856.out⟩
end Go.Proofs.Ytfdfdifjkaaeoaa.F
end
section
namespace Go.Proofs.Ytfdfdifjkaaeoaa.F
open Go.RowKit Go.Proofs.YtfdfdifjkaaeoaaW.PrintWords Go.Proofs.YtfdfdifjkaaeoaaW.PrintLast Go.Proofs.YtfdfdifjkaaeoaaW.PrintMore
attribute [local go_sem] max2_int min2_int max_two min_two max_three min_three max_four min_four
set_option linter.unusedVariables false
set_option linter.unusedSimpArgs false
def laws_markCellS.l0 : Nat → List (S59) → Int → Int → Option (Int × (List (S59)))
 | 0, _, _, _ => none
 | k + 1, x0, x1, x5 => if x5 < (x0.length : Int) then (if 0 ≤ x5 then ((some (x0.set (x5 : Int).toNat (⟨x1, (rd_T59 x0 x5).f1⟩ : S59) : List (S59))).bind fun y360 => (laws_markCellS.l0 k (y360.set (x5 : Int).toNat (⟨(rd_T59 y360 x5).f0, wrap64 (x1 + 1)⟩ : S59)) (wrap64 ((wrap64 (x1 + 1)) + 1)) (wrap64 (x5 + 1)))) else (none)) else (some (x1, x0))
def laws_markCellS.f (k : Nat) (l0 : List (S59)) (a1 : Int) : Option (Int × (List (S59))) := laws_markCellS.l0 k l0 a1 0
theorem laws_markCellS.calls (k : Nat) (P0_ : Nat → Prop) (u9000_ : Value) (l0 : List (S59)) (a1 : Int) (r1 : Int) (r2 : List (S59)) (w0 w : World) (hB : Below w0.heap.size w0 w) (ho0 : Kd.R k59 59 w w0.heap.size P0_ u9000_ l0) (h : laws_markCellS.f k l0 a1 = some (r1, r2)) :
  Calls Try.prog 14 #[u9000_, .int .i64 a1] w fun e w' => e = .returned (.int .i64 r1) ∧ Kd.R k59 59 w' w0.heap.size (fun k_ => (P0_ k_ ∨ w.heap.size ≤ k_)) u9000_ r2 ∧ Below w0.heap.size w0 w' ∧ Kept w w' (fun k_ => P0_ k_) := by
 have HO0 := aM (show Kd.R k59 59 w w0.heap.size (fun k_ => (P0_ k_ ∨ w.heap.size ≤ k_)) u9000_ l0 from Kd.R_mono ho0 (fun k_ hk => (.inl hk)))
 have HK := aM (Kept.refl w (fun k_ => P0_ k_))
 have HW0 := aM hB.size
 have HB := aM hB
 clear hB
 have H : (laws_markCellS.l0 k l0 a1 0) = some (r1, r2) := h
 clear h
 have H' := aM H
 clear H
 go_enter Try.func14, Try.ntmps14
 go_wp2
 go_loopg [1, 5] k (fun kq v1 v5 w' => ∃ (x0_1 : List (S59)) (x1_1 : Int) (x5_1 : Int), v1 = .int .i64 x1_1 ∧ v5 = .int .i64 x5_1 ∧ Aside0 (laws_markCellS.l0 kq x0_1 x1_1 x5_1 = some (r1, r2)) ∧ Aside0 (kq ≤ k) ∧ Aside0 (Kd.R k59 59 w' w0.heap.size (fun k_ => (P0_ k_ ∨ w.heap.size ≤ k_)) u9000_ x0_1) ∧ Aside0 (Kept w w' (fun k_ => P0_ k_)) ∧ Aside0 (Below w0.heap.size w0 w'))
 case atStart => exact ⟨(l0), (a1), (0), zr, zr, H', ⟨Nat.le_refl _⟩, ⟨mR_ HO0.out⟩, ⟨by repeat (first | (with_reducible first | exact HK.out | apply Kept.alloc | apply Kept.drewN | apply Kept.drew) | exact HK.out)⟩, ⟨zb⟩⟩
 case round =>
  clear H'
  try clear c1
  try clear p2
  obtain ⟨x0_1, x1_1, x5_1, rfl, rfl, HA, HK1, HO_0, HK, HB⟩ := hrel
  cases gk with
  | zero => exact absurd HA.out (by simp [laws_markCellS.l0])
  | succ k1 =>
   have H := HA.out
   clear HA
   simp only [laws_markCellS.l0] at H
   by_cases c3 : x5_1 < (x0_1.length : Int)
   rotate_left
   ·rw [if_neg c3] at H
    have c3b0 : decide (x5_1 < (x0_1.length : Int)) = false := decide_eq_false c3
    clear c3
    simp only [Option.some.injEq, Prod.mk.injEq] at H
    obtain ⟨rfl, rfl⟩ := H
    obtain ⟨Ao12, co12, eo12⟩ := Kd.R_slice HO_0.out
    subst eo12
    go_wp2
    go_ret
    exact ⟨zw, mR_ HO_0.out, zb, by repeat (first | (with_reducible first | exact HK.out | apply Kept.alloc | apply Kept.drewN | apply Kept.drew) | exact HK.out)⟩
   rw [if_pos c3] at H
   have c3b0 : decide (x5_1 < (x0_1.length : Int)) = true := decide_eq_true c3
   clear c3
   by_cases c4 : 0 ≤ x5_1
   rotate_left
   ·rw [if_neg c4] at H
    exact absurd H (by simp)
   rw [if_pos c4] at H
   have c4b0 : decide (0 ≤ x5_1) = true := decide_eq_true c4
   clear c4
   obtain ⟨y360, hy360⟩ : ∃ y_ : List (S59), y_ = (x0_1.set (x5_1 : Int).toNat (⟨x1_1, (rd_T59 x0_1 x5_1).f1⟩ : S59)) := ⟨_, rfl⟩
   replace H : (laws_markCellS.l0 k1 (y360.set (x5_1 : Int).toNat (⟨(rd_T59 y360 x5_1).f0, wrap64 (x1_1 + 1)⟩ : S59)) (wrap64 ((wrap64 (x1_1 + 1)) + 1)) (wrap64 (x5_1 + 1))) = some (r1, r2) := zy H hy360
   have Ny360 := aM hy360
   clear hy360
   obtain ⟨y361, hy361⟩ : ∃ y_ : List (S59), y_ = (y360.set (x5_1 : Int).toNat (⟨(rd_T59 y360 x5_1).f0, wrap64 (x1_1 + 1)⟩ : S59)) := ⟨_, rfl⟩
   replace H : (laws_markCellS.l0 k1 y361 (wrap64 ((wrap64 (x1_1 + 1)) + 1)) (wrap64 (x5_1 + 1))) = some (r1, r2) := zy H hy361
   have Ny361 := aM hy361
   clear hy361
   have H' := aM H
   clear H
   obtain ⟨Ao7, co7, eo7⟩ := Kd.R_slice HO_0.out
   subst eo7
   have p5 : 0 ≤ (x5_1 : Int) := of_decide_eq_true za
   have q5 : (x5_1 : Int) < ((x0_1.length : Int) : Int) := of_decide_eq_true za
   obtain ⟨go5, co5, eo5, gb5, gl5, cl5, HG5⟩ := Kd.R_form HO_0.out (by omega)
   (first | cases eo5 | (injection eo5 with ea_ en_ ec_; (first | subst ea_ | (injection ea_ with ea_; subst ea_)); subst ec_; clear en_))
   have GB5 := aM gb5
   have GG5 := aM HG5
   clear gb5 gl5 HG5
   have HMgo5 := aM (show (P0_ go5 ∨ w.heap.size ≤ go5) from (HO_0.out.1 _ rfl))
   obtain ⟨ce5, hcl5, hM5, hcc5, hfr5⟩ := Kd.R_elem HO_0.out z59 (x5_1 : Int) p5 q5
   obtain rfl := k59_openM hM5
   have hx5_0 : wr.cell? ⟨go5, (x5_1 : Int).toNat * 2, none⟩ = some (.int .i64 ((rd_T59 x0_1 x5_1).f0)) := hcc5 0 _ rfl
   have hx5_1 : wr.cell? ⟨go5, (x5_1 : Int).toNat * 2 + 1, none⟩ = some (.int .i64 ((rd_T59 x0_1 x5_1).f1)) := hcc5 1 _ rfl
   have hf5_0 : wr.frozen? ⟨go5, (x5_1 : Int).toNat * 2, none⟩ = false := hfr5 0
   have hf5_1 : wr.frozen? ⟨go5, (x5_1 : Int).toNat * 2 + 1, none⟩ = false := hfr5 1
   clear hcl5 hcc5 hfr5 hM5
   replace p5 := eq_true p5
   replace q5 := eq_true q5
   have HX8 := aM (show Kd.R k59 59 wr w0.heap.size (fun k_ => (P0_ k_ ∨ w.heap.size ≤ k_)) (.slice (some ⟨go5, 0, none⟩) x0_1.length co7) x0_1 from (mR_ HO_0.out))
   obtain ⟨ce8, hcl8, hM8, hcc8, hfr8⟩ := Kd.R_elem HX8.out z59 (x5_1 : Int) (of_decide_eq_true za) (by have h_ : (x5_1 : Int) < ((x0_1.length : Int) : Int) := of_decide_eq_true za; first | exact h_ | (have e_ := (Kd.R_reads' HO_0.out).1; omega) | simpa using h_)
   obtain rfl := k59_openM hM8
   have HP8 := Kd.R_seg HX8.out (x5_1 : Int) (of_decide_eq_true za) (by have h_ : (x5_1 : Int) < ((x0_1.length : Int) : Int) := of_decide_eq_true za; first | exact h_ | (have e_ := (Kd.R_reads' HO_0.out).1; omega) | simpa using h_) (seg := [.int .i64 x1_1]) (j := 0) hcl8 hcc8 (show 1 ≤ 2 from by decide) (x' := (⟨x1_1, (rd_T59 x0_1 x5_1).f1⟩ : S59)) (k59_mkM _ _ _ (⟨x1_1, (rd_T59 x0_1 x5_1).f1⟩ : S59) ) (fun _ hk => hk)
   have hx8_0 := hcc8 0 _ rfl
   (try simp only [show (k59).sz = 2 from rfl, Nat.mul_one, Nat.add_zero] at hx8_0)
   have hf8_0 := hfr8 0
   (try simp only [show (k59).sz = 2 from rfl, Nat.mul_one, Nat.add_zero] at hf8_0)
   clear hcl8 hcc8 hfr8 hM8
   go_wp2_with (first | ((with_reducible refine gate_store (t := 2) (p := 16) rfl ?_); refine store_event (t := 2) (p := 16) (v := ?vo_w9) (w1 := (wr.setCell ⟨go5, (x5_1 : Int).toNat * 2, none⟩ (.int .i64 x1_1))) ?hg ?ho ?hn ?hr ?_; (case ho => rfl); (case hg => rfl); (case hn => rfl); (case hr => first | (go_simp; done) | (go_simp; rfl)); intro w9 hw; have hg : wr.grownBy w9 (some go5) := (by rw [hw]; exact HP8.2); have hp_ : Kd.R k59 59 w9 w0.heap.size (fun k_ => (P0_ k_ ∨ w.heap.size ≤ k_)) (.slice (some ⟨go5, 0, none⟩) x0_1.length co7) y360 := (by rw [hw, Ny360.out]; exact HP8.1); clear HP8; have n0_ := aM (hp_); have n1_ := aM ((by rw [hw]; exact below_set (HB.out) GB5.out : Below w0.heap.size w0 w9)); have n2_ := aM (Kept.of_grown (S := (fun k_ => P0_ k_)) hg (by repeat (first | (with_reducible first | exact HK.out | apply Kept.alloc | apply Kept.drewN | apply Kept.drew) | exact HK.out)) (fun k_ e_ => (HO_0.out.1 k_ e_))); clear HO_0 HB HK; have HO_0 := n0_; have HB := n1_; have HK := n2_; clear n0_ n1_ n2_ hg hw hp_; have p6 : 0 ≤ (x5_1 : Int) := of_decide_eq_true za; have q6 : (x5_1 : Int) < ((x0_1.length : Int) : Int) := of_decide_eq_true za; obtain ⟨ce6, hcl6, hM6, hcc6, hfr6⟩ := Kd.R_elem HO_0.out z59 (x5_1 : Int) p6 q6; obtain rfl := k59_openM hM6; have hx6_0 : w9.cell? ⟨go5, (x5_1 : Int).toNat * 2, none⟩ = some (.int .i64 ((rd_T59 y360 x5_1).f0)) := hcc6 0 _ rfl; have hx6_1 : w9.cell? ⟨go5, (x5_1 : Int).toNat * 2 + 1, none⟩ = some (.int .i64 ((rd_T59 y360 x5_1).f1)) := hcc6 1 _ rfl; have hf6_0 : w9.frozen? ⟨go5, (x5_1 : Int).toNat * 2, none⟩ = false := hfr6 0; have hf6_1 : w9.frozen? ⟨go5, (x5_1 : Int).toNat * 2 + 1, none⟩ = false := hfr6 1; clear hcl6 hcc6 hfr6 hM6; replace p6 := eq_true p6; replace q6 := eq_true q6; have HX10 := aM (show Kd.R k59 59 w9 w0.heap.size (fun k_ => (P0_ k_ ∨ w.heap.size ≤ k_)) (.slice (some ⟨go5, 0, none⟩) x0_1.length co7) y360 from (mR_ HO_0.out)); obtain ⟨ce10, hcl10, hM10, hcc10, hfr10⟩ := Kd.R_elem HX10.out z59 (x5_1 : Int) (of_decide_eq_true za) (by have h_ : (x5_1 : Int) < ((x0_1.length : Int) : Int) := of_decide_eq_true za; first | exact h_ | (have e_ := (Kd.R_reads' HO_0.out).1; omega) | simpa using h_); obtain rfl := k59_openM hM10; have HP10 := Kd.R_seg HX10.out (x5_1 : Int) (of_decide_eq_true za) (by have h_ : (x5_1 : Int) < ((x0_1.length : Int) : Int) := of_decide_eq_true za; first | exact h_ | (have e_ := (Kd.R_reads' HO_0.out).1; omega) | simpa using h_) (seg := [.int .i64 (wrap64 (x1_1 + 1))]) (j := 1) hcl10 hcc10 (show 2 ≤ 2 from by decide) (x' := (⟨(rd_T59 y360 x5_1).f0, wrap64 (x1_1 + 1)⟩ : S59)) (k59_mkM _ _ _ (⟨(rd_T59 y360 x5_1).f0, wrap64 (x1_1 + 1)⟩ : S59) ) (fun _ hk => hk); have hx10_1 := hcc10 1 _ rfl; (try simp only [show (k59).sz = 2 from rfl, Nat.mul_one, Nat.add_zero] at hx10_1); have hf10_1 := hfr10 1; (try simp only [show (k59).sz = 2 from rfl, Nat.mul_one, Nat.add_zero] at hf10_1); clear hcl10 hcc10 hfr10 hM10) | ((with_reducible refine gate_store (t := 2) (p := 23) rfl ?_); refine store_event (t := 2) (p := 23) (v := ?vo_w11) (w1 := (w9.setCell ⟨go5, (x5_1 : Int).toNat * 2 + 1, none⟩ (.int .i64 (wrap64 (x1_1 + 1))))) ?hg ?ho ?hn ?hr ?_; (case ho => rfl); (case hg => rfl); (case hn => rfl); (case hr => first | (go_simp; done) | (go_simp; rfl)); intro w11 hw; have hg : w9.grownBy w11 (some go5) := (by rw [hw]; exact HP10.2); have hp_ : Kd.R k59 59 w11 w0.heap.size (fun k_ => (P0_ k_ ∨ w.heap.size ≤ k_)) (.slice (some ⟨go5, 0, none⟩) x0_1.length co7) y361 := (by rw [hw, Ny361.out]; exact HP10.1); clear HP10; have n0_ := aM (hp_); have n1_ := aM ((by rw [hw]; exact below_set (HB.out) GB5.out : Below w0.heap.size w0 w11)); have n2_ := aM (Kept.of_grown (S := (fun k_ => P0_ k_)) hg (by repeat (first | (with_reducible first | exact HK.out | apply Kept.alloc | apply Kept.drewN | apply Kept.drew) | exact HK.out)) (fun k_ e_ => (HO_0.out.1 k_ e_))); clear HO_0 HB HK; have HO_0 := n0_; have HB := n1_; have HK := n2_; clear n0_ n1_ n2_; clear hg hw hp_))
   go_roundg k1
   case measure => have := HK1.out; omega
   case rel => exact ⟨(y361), (wrap64 ((wrap64 (x1_1 + 1)) + 1)), (wrap64 (x5_1 + 1)), zr, zr, H', ⟨by have := HK1.out; omega⟩, ⟨mR_ HO_0.out⟩, ⟨by repeat (first | (with_reducible first | exact HK.out | apply Kept.alloc | apply Kept.drewN | apply Kept.drew) | exact HK.out)⟩, ⟨zb⟩⟩
def laws_heldCellS.l0 : Nat → List (S59) → Int → Int → Option (Int)
 | 0, _, _, _ => none
 | k + 1, x0, x1, x5 => if x5 < (x0.length : Int) then (if 0 ≤ x5 then (if ((rd_T59 x0 x5).f0) = x1 then (if ((rd_T59 x0 x5).f1) = (wrap64 (x1 + 1)) then (laws_heldCellS.l0 k x0 (wrap64 ((wrap64 (x1 + 1)) + 1)) (wrap64 (x5 + 1))) else (some (-1))) else (some (-1))) else (none)) else (some x1)
def laws_heldCellS.f (k : Nat) (l0 : List (S59)) (a1 : Int) : Option (Int) := laws_heldCellS.l0 k l0 a1 0
theorem laws_heldCellS.calls (k : Nat) (A0 : Option Addr) (c0 : Nat) (l0 : List (S59)) (a1 : Int) (r : Int) (w : World) (hr0 : Kd.C k59 w A0 l0.length l0) (hc0 : l0.length ≤ c0) (h : laws_heldCellS.f k l0 a1 = some r) :
  Calls Try.prog 15 #[.slice A0 l0.length c0, .int .i64 a1] w fun e w' => e = .returned (.int .i64 r) ∧ Drawn0 w w' := by
 have HR0 := aM hr0
 have HC0 := aM hc0
 clear hr0 hc0
 have H : (laws_heldCellS.l0 k l0 a1 0) = some r := h
 clear h
 have H' := aM H
 clear H
 go_enter Try.func15, Try.ntmps15
 go_wp2
 go_loopg [1, 5] k (fun kq v1 v5 w' => ∃ (x1_1 : Int) (x5_1 : Int), v1 = .int .i64 x1_1 ∧ v5 = .int .i64 x5_1 ∧ Aside0 (laws_heldCellS.l0 kq l0 x1_1 x5_1 = some r) ∧ Aside0 (kq ≤ k) ∧ Drawn0 w w')
 case atStart => exact ⟨(a1), (0), zr, zr, H', ⟨Nat.le_refl _⟩, by repeat (first | exact Drawn0.refl _ | apply Drawn0.step)⟩
 case round =>
  clear H'
  try clear c1
  try clear p2
  obtain ⟨x1_1, x5_1, rfl, rfl, HA, HK1, ⟨m1, rfl⟩⟩ := hrel
  cases gk with
  | zero => exact absurd HA.out (by simp [laws_heldCellS.l0])
  | succ k1 =>
   have H := HA.out
   clear HA
   simp only [laws_heldCellS.l0] at H
   by_cases c3 : x5_1 < (l0.length : Int)
   rotate_left
   ·rw [if_neg c3] at H
    have c3b0 : decide (x5_1 < (l0.length : Int)) = false := decide_eq_false c3
    clear c3
    obtain rfl := Option.some.inj H
    go_wp2
    go_ret
    exact ⟨by first | rfl | (simp; done) | (simp [*]; done), by repeat (first | exact Drawn0.refl _ | apply Drawn0.step)⟩
   rw [if_pos c3] at H
   have c3b0 : decide (x5_1 < (l0.length : Int)) = true := decide_eq_true c3
   clear c3
   by_cases c4 : 0 ≤ x5_1
   rotate_left
   ·rw [if_neg c4] at H
    exact absurd H (by simp)
   rw [if_pos c4] at H
   have c4b0 : decide (0 ≤ x5_1) = true := decide_eq_true c4
   clear c4
   by_cases c5 : ((rd_T59 l0 x5_1).f0) = x1_1
   rotate_left
   ·rw [if_neg c5] at H
    have c5b0 : (((rd_T59 l0 x5_1).f0) == x1_1) = false := beq_eq_false_iff_ne.mpr c5
    have c5b1 : (((rd_T59 l0 x5_1).f0) != x1_1) = true := bne_iff_ne.mpr c5
    obtain rfl := Option.some.inj H
    have p362 : 0 ≤ (x5_1 : Int) := of_decide_eq_true za
    have q362 : x5_1 < (l0.length : Int) := of_decide_eq_true za
    obtain ⟨ad362, e362, hx362_0, hx362_1⟩ := at_T59 HR0.out x5_1 p362 q362
    cases e362
    replace p362 := eq_true p362
    replace q362 := eq_true q362
    go_wp2
    go_ret
    exact ⟨by first | rfl | (simp; done) | (simp [*]; done), by repeat (first | exact Drawn0.refl _ | apply Drawn0.step)⟩
   rw [if_pos c5] at H
   have c5b0 : (((rd_T59 l0 x5_1).f0) == x1_1) = true := beq_iff_eq.mpr c5
   have c5b1 : (((rd_T59 l0 x5_1).f0) != x1_1) = false := bne_eq_false_iff_eq.mpr c5
   clear c5
   by_cases c6 : ((rd_T59 l0 x5_1).f1) = (wrap64 (x1_1 + 1))
   rotate_left
   ·rw [if_neg c6] at H
    have c6b0 : (((rd_T59 l0 x5_1).f1) == (wrap64 (x1_1 + 1))) = false := beq_eq_false_iff_ne.mpr c6
    have c6b1 : (((rd_T59 l0 x5_1).f1) != (wrap64 (x1_1 + 1))) = true := bne_iff_ne.mpr c6
    obtain rfl := Option.some.inj H
    have p362 : 0 ≤ (x5_1 : Int) := of_decide_eq_true za
    have q362 : x5_1 < (l0.length : Int) := of_decide_eq_true za
    obtain ⟨ad362, e362, hx362_0, hx362_1⟩ := at_T59 HR0.out x5_1 p362 q362
    cases e362
    replace p362 := eq_true p362
    replace q362 := eq_true q362
    have p363 : 0 ≤ (x5_1 : Int) := of_decide_eq_true za
    have q363 : x5_1 < (l0.length : Int) := of_decide_eq_true za
    obtain ⟨ad363, e363, hx363_0, hx363_1⟩ := at_T59 HR0.out x5_1 p363 q363
    obtain rfl : ad362 = ad363 := (by injection e363)
    replace p363 := eq_true p363
    replace q363 := eq_true q363
    go_wp2
    go_ret
    exact ⟨by first | rfl | (simp; done) | (simp [*]; done), by repeat (first | exact Drawn0.refl _ | apply Drawn0.step)⟩
   rw [if_pos c6] at H
   have c6b0 : (((rd_T59 l0 x5_1).f1) == (wrap64 (x1_1 + 1))) = true := beq_iff_eq.mpr c6
   have c6b1 : (((rd_T59 l0 x5_1).f1) != (wrap64 (x1_1 + 1))) = false := bne_eq_false_iff_eq.mpr c6
   clear c6
   have H' := aM H
   clear H
   have p362 : 0 ≤ (x5_1 : Int) := of_decide_eq_true za
   have q362 : x5_1 < (l0.length : Int) := of_decide_eq_true za
   obtain ⟨ad362, e362, hx362_0, hx362_1⟩ := at_T59 HR0.out x5_1 p362 q362
   cases e362
   replace p362 := eq_true p362
   replace q362 := eq_true q362
   have p363 : 0 ≤ (x5_1 : Int) := of_decide_eq_true za
   have q363 : x5_1 < (l0.length : Int) := of_decide_eq_true za
   obtain ⟨ad363, e363, hx363_0, hx363_1⟩ := at_T59 HR0.out x5_1 p363 q363
   obtain rfl : ad362 = ad363 := (by injection e363)
   replace p363 := eq_true p363
   replace q363 := eq_true q363
   go_wp2
   go_roundg k1
   case measure => have := HK1.out; omega
   case rel => exact ⟨(wrap64 ((wrap64 (x1_1 + 1)) + 1)), (wrap64 (x5_1 + 1)), zr, zr, H', ⟨by have := HK1.out; omega⟩, by repeat (first | exact Drawn0.refl _ | apply Drawn0.step)⟩
def spec_FormsOfPiece.f (k : Nat) (l0_0 : List (S59)) (a0_1 : Int) (a0_2 : Bool) : Option ((List (List (S59))) × Int) := (spec_IsPiece.f k l0_0 a0_1 a0_2).bind fun t1192 => (if t1192 = true then ((spec_l11Forms.f k l0_0 a0_1 a0_2).bind fun t1193 => (some (t1193, 0))) else (some (([] : List (List (S59))), 1)))
theorem spec_FormsOfPiece.calls (k : Nat) (A0_0 : Option Addr) (c0_0 : Nat) (l0_0 : List (S59)) (a0_1 : Int) (a0_2 : Bool) (r1 : List (List (S59))) (r2 : Int) (w : World) (hr0_0 : Kd.C k59 w A0_0 l0_0.length l0_0) (hc0_0 : l0_0.length ≤ c0_0) (h : spec_FormsOfPiece.f k l0_0 a0_1 a0_2 = some (r1, r2)) :
  Calls Try.prog 47 #[.agg #[.slice A0_0 l0_0.length c0_0, .int .i64 a0_1, .bool a0_2]] w fun e w' => ∃ v0_ : Value, e = .returned (.tuple #[v0_, .int .i64 r2]) ∧ Kd.V (Kd.slice 59 k59) 24 w' w.heap.size (fun k_ => (w.heap.size ≤ k_)) v0_ r1 ∧ Below w.heap.size w w' := by
 have hu51 := Try.underlying51
 have HR0_0 := aM hr0_0
 have HC0_0 := aM hc0_0
 clear hr0_0 hc0_0
 have HB := aM (Below.refl w.heap.size w)
 have H : ((spec_IsPiece.f k l0_0 a0_1 a0_2).bind fun t1192 => (if t1192 = true then ((spec_l11Forms.f k l0_0 a0_1 a0_2).bind fun t1193 => (some (t1193, 0))) else (some (([] : List (List (S59))), 1)))) = some (r1, r2) := h
 clear h
 replace H := Option.bind_eq_some_iff.mp H
 obtain ⟨t1192, A20, H⟩ := H
 replace H : (if t1192 = true then ((spec_l11Forms.f k l0_0 a0_1 a0_2).bind fun t1193 => (some (t1193, 0))) else (some (([] : List (List (S59))), 1))) = some (r1, r2) := H
 have A2 := aM A20
 clear A20
 by_cases c3 : t1192 = true
 rotate_left
 ·replace c3 := Bool.eq_false_iff.mpr c3
  subst c3
  have H1 : (some (([] : List (List (S59))), 1)) = some (r1, r2) := by rw [if_neg (show ¬ (false = true) by decide)] at H; exact H
  clear H
  have H := H1
  clear H1
  simp only [Option.some.injEq, Prod.mk.injEq] at H
  obtain ⟨rfl, rfl⟩ := H
  go_enter Try.func47, Try.ntmps47
  go_wp2_with (first | ((with_reducible refine gate_dst (N := 1) rfl ?_); refine zx 1 #[.slice A0_0 l0_0.length c0_0, .int .i64 a0_1, .bool a0_2] 51 ?_; intro gb1191 hg w10 hbox hb; have n0_ := aM (below_step zb hb); have n1_ := aM (hbox); have n2_ := aM ((ze : w.heap.size ≤ gb1191)); have n3_ := aM ((ze : w.heap.size ≤ gb1191)); clear HB; have HB := n0_; have BK1191 := n1_; have GW1191 := n2_; have GE1191 := n3_; clear n0_ n1_ n2_ n3_ hb hbox hg; have hcz11_0 : w10.cell? ⟨gb1191, 0, none⟩ = some (.slice A0_0 l0_0.length c0_0) := (blk_cell BK1191.out 0).trans rfl; have hcz11_1 : w10.cell? ⟨gb1191, 1, none⟩ = some (.int .i64 a0_1) := (blk_cell BK1191.out 1).trans rfl; have hcz11_2 : w10.cell? ⟨gb1191, 2, none⟩ = some (.bool a0_2) := (blk_cell BK1191.out 2).trans rfl; have hfz11_0 := blk_frozen BK1191.out 0; have hfz11_1 := blk_frozen BK1191.out 1; have hfz11_2 := blk_frozen BK1191.out 2) | ((with_reducible refine gate_callee (f := 73) rfl ?_); refine goesL_ (some 5) rfl rfl Try.func73 (by kernel_rfl) rfl #[.agg #[.slice A0_0 l0_0.length c0_0, .int .i64 a0_1, .bool a0_2]] rfl zm ?_; (with_reducible refine (spec_IsPiece.calls k _ _ l0_0 a0_1 a0_2 false _ ?side1 ?side2 A2.out).mono ?_); (case side1 => repeat (first | exact (Kd.C_below HR0_0.out HB.out) | (with_reducible refine Kd.C_alloc ?_ _) | (with_reducible refine Kd.C_drewN ?_ _) | (with_reducible refine Kd.C_drew ?_))); (case side2 => exact HC0_0.out); rintro e w12 ⟨rfl, hb⟩; refine ⟨_, rfl, ?_⟩; have n0_ := aM (blk_below (g := gb1191) (o := .cells #[.slice A0_0 l0_0.length c0_0, .int .i64 a0_1, .bool a0_2] 51 (0, 0)) (mB_ BK1191.out) hb); have n1_ := aM (below_step (zs GE1191.out) hb); clear BK1191 HB; have BK1191 := n0_; have HB := n1_; clear n0_ n1_; (try clear hb); (try clear hb2); (try clear hk); (try clear hi)))
  go_ret2
  exact ⟨_, zw, Kd.S_V (by first | exact Kd.S_nil _ _ w.heap.size _ _ | (show Kd.S _ _ _ w.heap.size _ (Value.slice none 0 0) []; exact Kd.S_nil _ _ _ _ _) | exact Kd.S_nil _ _ _ _ _ | exact Kd.N_nil _ _ _ _ _ | exact Kd.V_nil _ _ _ _ _ | exact Kd.Q_nil _ _ _ _ _ | exact Kd.R_nil _ _ _ _ _), zs GE1191.out⟩
 subst c3
 have H1 : ((spec_l11Forms.f k l0_0 a0_1 a0_2).bind fun t1193 => (some (t1193, 0))) = some (r1, r2) := by rw [if_pos rfl] at H; exact H
 clear H
 have H := H1
 clear H1
 replace H := Option.bind_eq_some_iff.mp H
 obtain ⟨t1193, A40, H⟩ := H
 replace H : (some (t1193, 0)) = some (r1, r2) := H
 have A4 := aM A40
 clear A40
 simp only [Option.some.injEq, Prod.mk.injEq] at H
 obtain ⟨rfl, rfl⟩ := H
 go_enter Try.func47, Try.ntmps47
 go_wp2_with (first | ((with_reducible refine gate_dst (N := 1) rfl ?_); refine zx 1 #[.slice A0_0 l0_0.length c0_0, .int .i64 a0_1, .bool a0_2] 51 ?_; intro gb1191 hg w5 hbox hb; have n0_ := aM (below_step zb hb); have n1_ := aM (hbox); have n2_ := aM ((ze : w.heap.size ≤ gb1191)); have n3_ := aM ((ze : w.heap.size ≤ gb1191)); clear HB; have HB := n0_; have BK1191 := n1_; have GW1191 := n2_; have GE1191 := n3_; clear n0_ n1_ n2_ n3_ hb hbox hg; have hcz6_0 : w5.cell? ⟨gb1191, 0, none⟩ = some (.slice A0_0 l0_0.length c0_0) := (blk_cell BK1191.out 0).trans rfl; have hcz6_1 : w5.cell? ⟨gb1191, 1, none⟩ = some (.int .i64 a0_1) := (blk_cell BK1191.out 1).trans rfl; have hcz6_2 : w5.cell? ⟨gb1191, 2, none⟩ = some (.bool a0_2) := (blk_cell BK1191.out 2).trans rfl; have hfz6_0 := blk_frozen BK1191.out 0; have hfz6_1 := blk_frozen BK1191.out 1; have hfz6_2 := blk_frozen BK1191.out 2) | ((with_reducible refine gate_callee (f := 73) rfl ?_); refine goesL_ (some 5) rfl rfl Try.func73 (by kernel_rfl) rfl #[.agg #[.slice A0_0 l0_0.length c0_0, .int .i64 a0_1, .bool a0_2]] rfl zm ?_; (with_reducible refine (spec_IsPiece.calls k _ _ l0_0 a0_1 a0_2 true _ ?side1 ?side2 A2.out).mono ?_); (case side1 => repeat (first | exact (Kd.C_below HR0_0.out HB.out) | (with_reducible refine Kd.C_alloc ?_ _) | (with_reducible refine Kd.C_drewN ?_ _) | (with_reducible refine Kd.C_drew ?_))); (case side2 => exact HC0_0.out); rintro e w7 ⟨rfl, hb⟩; refine ⟨_, rfl, ?_⟩; have n0_ := aM (blk_below (g := gb1191) (o := .cells #[.slice A0_0 l0_0.length c0_0, .int .i64 a0_1, .bool a0_2] 51 (0, 0)) (mB_ BK1191.out) hb); have n1_ := aM (below_step (zs GE1191.out) hb); clear BK1191 HB; have BK1191 := n0_; have HB := n1_; clear n0_ n1_; (try clear hb); (try clear hb2); (try clear hk); (try clear hi); have hcz8_0 : w7.cell? ⟨gb1191, 0, none⟩ = some (.slice A0_0 l0_0.length c0_0) := (blk_cell BK1191.out 0).trans rfl; have hcz8_1 : w7.cell? ⟨gb1191, 1, none⟩ = some (.int .i64 a0_1) := (blk_cell BK1191.out 1).trans rfl; have hcz8_2 : w7.cell? ⟨gb1191, 2, none⟩ = some (.bool a0_2) := (blk_cell BK1191.out 2).trans rfl; have hfz8_0 := blk_frozen BK1191.out 0; have hfz8_1 := blk_frozen BK1191.out 1; have hfz8_2 := blk_frozen BK1191.out 2) | ((with_reducible refine gate_callee (f := 89) rfl ?_); refine goesL_ (some 8) rfl rfl Try.func89 (by kernel_rfl) rfl #[.agg #[.slice A0_0 l0_0.length c0_0, .int .i64 a0_1, .bool a0_2]] rfl zm ?_; (with_reducible refine (spec_l11Forms.calls k _ _ l0_0 a0_1 a0_2 t1193 _ ?side1 ?side2 A4.out).mono ?_); (case side1 => repeat (first | exact (Kd.C_below HR0_0.out HB.out) | (with_reducible refine Kd.C_alloc ?_ _) | (with_reducible refine Kd.C_drewN ?_ _) | (with_reducible refine Kd.C_drew ?_))); (case side2 => exact HC0_0.out); rintro e w9 ⟨v1194, rfl, ho0, hb⟩; refine ⟨_, rfl, ?_⟩; have n0_ := aM (Kd.V_lower (Kd.V_mono (ok' := fun k_ => (w.heap.size ≤ k_) ∧ k_ ≠ gb1191) ho0 (fun k_ hk_ => ⟨(Nat.le_trans (below_size (zs GE1191.out)) hk_), (Kd.freshB (g := gb1191) (o := .cells #[.slice A0_0 l0_0.length c0_0, .int .i64 a0_1, .bool a0_2] 51 (0, 0)) (mB_ BK1191.out) k_ hk_)⟩)) (below_size (zs GE1191.out))); have n1_ := aM (blk_below (g := gb1191) (o := .cells #[.slice A0_0 l0_0.length c0_0, .int .i64 a0_1, .bool a0_2] 51 (0, 0)) (mB_ BK1191.out) hb); have n2_ := aM (below_step (zs GE1191.out) hb); clear BK1191 HB; have HO1195 := n0_; have BK1191 := n1_; have HB := n2_; clear n0_ n1_ n2_; (try clear hb); (try clear hb2); (try clear hk); (try clear hi); (try clear ho0)))
 go_ret2
 exact ⟨_, zw, zd3 HO1195.out, zs GE1191.out⟩
def impl_FormsOfPiece.f (k : Nat) (l0_0 : List (S59)) (a0_1 : Int) (a0_2 : Bool) : Option ((List (List (S59))) × Int) := (impl_IsPiece.f k l0_0 a0_1 a0_2).bind fun t1197 => (if t1197 = true then ((impl_formsOf.f k l0_0 a0_1 a0_2).bind fun t1198 => (some (t1198, 0))) else (some (([] : List (List (S59))), 1)))
theorem impl_FormsOfPiece.calls (k : Nat) (A0_0 : Option Addr) (c0_0 : Nat) (l0_0 : List (S59)) (a0_1 : Int) (a0_2 : Bool) (r1 : List (List (S59))) (r2 : Int) (w : World) (hr0_0 : Kd.C k59 w A0_0 l0_0.length l0_0) (hc0_0 : l0_0.length ≤ c0_0) (h : impl_FormsOfPiece.f k l0_0 a0_1 a0_2 = some (r1, r2)) :
  Calls Try.prog 48 #[.agg #[.slice A0_0 l0_0.length c0_0, .int .i64 a0_1, .bool a0_2]] w fun e w' => ∃ v0_ : Value, e = .returned (.tuple #[v0_, .int .i64 r2]) ∧ Kd.S (Kd.slice 59 k59) 24 w' w.heap.size (fun _ => True) v0_ r1 ∧ Below w.heap.size w w' := by
 have hu51 := Try.underlying51
 have HR0_0 := aM hr0_0
 have HC0_0 := aM hc0_0
 clear hr0_0 hc0_0
 have HB := aM (Below.refl w.heap.size w)
 have H : ((impl_IsPiece.f k l0_0 a0_1 a0_2).bind fun t1197 => (if t1197 = true then ((impl_formsOf.f k l0_0 a0_1 a0_2).bind fun t1198 => (some (t1198, 0))) else (some (([] : List (List (S59))), 1)))) = some (r1, r2) := h
 clear h
 replace H := Option.bind_eq_some_iff.mp H
 obtain ⟨t1197, A20, H⟩ := H
 replace H : (if t1197 = true then ((impl_formsOf.f k l0_0 a0_1 a0_2).bind fun t1198 => (some (t1198, 0))) else (some (([] : List (List (S59))), 1))) = some (r1, r2) := H
 have A2 := aM A20
 clear A20
 by_cases c3 : t1197 = true
 rotate_left
 ·replace c3 := Bool.eq_false_iff.mpr c3
  subst c3
  have H1 : (some (([] : List (List (S59))), 1)) = some (r1, r2) := by rw [if_neg (show ¬ (false = true) by decide)] at H; exact H
  clear H
  have H := H1
  clear H1
  simp only [Option.some.injEq, Prod.mk.injEq] at H
  obtain ⟨rfl, rfl⟩ := H
  go_enter Try.func48, Try.ntmps48
  go_wp2_with (first | ((with_reducible refine gate_dst (N := 1) rfl ?_); refine zx 1 #[.slice A0_0 l0_0.length c0_0, .int .i64 a0_1, .bool a0_2] 51 ?_; intro gb1196 hg w10 hbox hb; have n0_ := aM (below_step zb hb); have n1_ := aM (hbox); have n2_ := aM ((ze : w.heap.size ≤ gb1196)); have n3_ := aM ((ze : w.heap.size ≤ gb1196)); clear HB; have HB := n0_; have BK1196 := n1_; have GW1196 := n2_; have GE1196 := n3_; clear n0_ n1_ n2_ n3_ hb hbox hg; have hcz11_0 : w10.cell? ⟨gb1196, 0, none⟩ = some (.slice A0_0 l0_0.length c0_0) := (blk_cell BK1196.out 0).trans rfl; have hcz11_1 : w10.cell? ⟨gb1196, 1, none⟩ = some (.int .i64 a0_1) := (blk_cell BK1196.out 1).trans rfl; have hcz11_2 : w10.cell? ⟨gb1196, 2, none⟩ = some (.bool a0_2) := (blk_cell BK1196.out 2).trans rfl; have hfz11_0 := blk_frozen BK1196.out 0; have hfz11_1 := blk_frozen BK1196.out 1; have hfz11_2 := blk_frozen BK1196.out 2) | ((with_reducible refine gate_callee (f := 75) rfl ?_); refine goesL_ (some 5) rfl rfl Try.func75 (by kernel_rfl) rfl #[.agg #[.slice A0_0 l0_0.length c0_0, .int .i64 a0_1, .bool a0_2]] rfl zm ?_; (with_reducible refine (impl_IsPiece.calls k _ _ l0_0 a0_1 a0_2 false _ ?side1 ?side2 A2.out).mono ?_); (case side1 => repeat (first | exact (Kd.C_below HR0_0.out HB.out) | (with_reducible refine Kd.C_alloc ?_ _) | (with_reducible refine Kd.C_drewN ?_ _) | (with_reducible refine Kd.C_drew ?_))); (case side2 => exact HC0_0.out); rintro e w12 ⟨rfl, hb⟩; refine ⟨_, rfl, ?_⟩; have n0_ := aM (blk_below (g := gb1196) (o := .cells #[.slice A0_0 l0_0.length c0_0, .int .i64 a0_1, .bool a0_2] 51 (0, 0)) (mB_ BK1196.out) hb); have n1_ := aM (below_step (zs GE1196.out) hb); clear BK1196 HB; have BK1196 := n0_; have HB := n1_; clear n0_ n1_; (try clear hb); (try clear hb2); (try clear hk); (try clear hi)))
  go_ret2
  exact ⟨_, zw, by first | exact Kd.S_nil _ _ _ _ _ | exact Kd.N_nil _ _ _ _ _ | exact Kd.V_nil _ _ _ _ _ | exact Kd.Q_nil _ _ _ _ _ | exact Kd.R_nil _ _ _ _ _, zs GE1196.out⟩
 subst c3
 have H1 : ((impl_formsOf.f k l0_0 a0_1 a0_2).bind fun t1198 => (some (t1198, 0))) = some (r1, r2) := by rw [if_pos rfl] at H; exact H
 clear H
 have H := H1
 clear H1
 replace H := Option.bind_eq_some_iff.mp H
 obtain ⟨t1198, A40, H⟩ := H
 replace H : (some (t1198, 0)) = some (r1, r2) := H
 have A4 := aM A40
 clear A40
 simp only [Option.some.injEq, Prod.mk.injEq] at H
 obtain ⟨rfl, rfl⟩ := H
 go_enter Try.func48, Try.ntmps48
 go_wp2_with (first | ((with_reducible refine gate_dst (N := 1) rfl ?_); refine zx 1 #[.slice A0_0 l0_0.length c0_0, .int .i64 a0_1, .bool a0_2] 51 ?_; intro gb1196 hg w5 hbox hb; have n0_ := aM (below_step zb hb); have n1_ := aM (hbox); have n2_ := aM ((ze : w.heap.size ≤ gb1196)); have n3_ := aM ((ze : w.heap.size ≤ gb1196)); clear HB; have HB := n0_; have BK1196 := n1_; have GW1196 := n2_; have GE1196 := n3_; clear n0_ n1_ n2_ n3_ hb hbox hg; have hcz6_0 : w5.cell? ⟨gb1196, 0, none⟩ = some (.slice A0_0 l0_0.length c0_0) := (blk_cell BK1196.out 0).trans rfl; have hcz6_1 : w5.cell? ⟨gb1196, 1, none⟩ = some (.int .i64 a0_1) := (blk_cell BK1196.out 1).trans rfl; have hcz6_2 : w5.cell? ⟨gb1196, 2, none⟩ = some (.bool a0_2) := (blk_cell BK1196.out 2).trans rfl; have hfz6_0 := blk_frozen BK1196.out 0; have hfz6_1 := blk_frozen BK1196.out 1; have hfz6_2 := blk_frozen BK1196.out 2) | ((with_reducible refine gate_callee (f := 75) rfl ?_); refine goesL_ (some 5) rfl rfl Try.func75 (by kernel_rfl) rfl #[.agg #[.slice A0_0 l0_0.length c0_0, .int .i64 a0_1, .bool a0_2]] rfl zm ?_; (with_reducible refine (impl_IsPiece.calls k _ _ l0_0 a0_1 a0_2 true _ ?side1 ?side2 A2.out).mono ?_); (case side1 => repeat (first | exact (Kd.C_below HR0_0.out HB.out) | (with_reducible refine Kd.C_alloc ?_ _) | (with_reducible refine Kd.C_drewN ?_ _) | (with_reducible refine Kd.C_drew ?_))); (case side2 => exact HC0_0.out); rintro e w7 ⟨rfl, hb⟩; refine ⟨_, rfl, ?_⟩; have n0_ := aM (blk_below (g := gb1196) (o := .cells #[.slice A0_0 l0_0.length c0_0, .int .i64 a0_1, .bool a0_2] 51 (0, 0)) (mB_ BK1196.out) hb); have n1_ := aM (below_step (zs GE1196.out) hb); clear BK1196 HB; have BK1196 := n0_; have HB := n1_; clear n0_ n1_; (try clear hb); (try clear hb2); (try clear hk); (try clear hi); have hcz8_0 : w7.cell? ⟨gb1196, 0, none⟩ = some (.slice A0_0 l0_0.length c0_0) := (blk_cell BK1196.out 0).trans rfl; have hcz8_1 : w7.cell? ⟨gb1196, 1, none⟩ = some (.int .i64 a0_1) := (blk_cell BK1196.out 1).trans rfl; have hcz8_2 : w7.cell? ⟨gb1196, 2, none⟩ = some (.bool a0_2) := (blk_cell BK1196.out 2).trans rfl; have hfz8_0 := blk_frozen BK1196.out 0; have hfz8_1 := blk_frozen BK1196.out 1; have hfz8_2 := blk_frozen BK1196.out 2) | ((with_reducible refine gate_callee (f := 90) rfl ?_); refine goesL_ (some 8) rfl rfl Try.func90 (by kernel_rfl) rfl #[.agg #[.slice A0_0 l0_0.length c0_0, .int .i64 a0_1, .bool a0_2]] rfl zm ?_; (with_reducible refine (impl_formsOf.calls k _ _ l0_0 a0_1 a0_2 t1198 _ ?side1 ?side2 A4.out).mono ?_); (case side1 => repeat (first | exact (Kd.C_below HR0_0.out HB.out) | (with_reducible refine Kd.C_alloc ?_ _) | (with_reducible refine Kd.C_drewN ?_ _) | (with_reducible refine Kd.C_drew ?_))); (case side2 => exact HC0_0.out); rintro e w9 ⟨v1199, rfl, ho0, hb⟩; refine ⟨_, rfl, ?_⟩; have n0_ := aM (Kd.S_lower ho0 (below_size (zs GE1196.out))); have n1_ := aM (blk_below (g := gb1196) (o := .cells #[.slice A0_0 l0_0.length c0_0, .int .i64 a0_1, .bool a0_2] 51 (0, 0)) (mB_ BK1196.out) hb); have n2_ := aM (below_step (zs GE1196.out) hb); clear BK1196 HB; have HO1200 := n0_; have BK1196 := n1_; have HB := n2_; clear n0_ n1_ n2_; (try clear hb); (try clear hb2); (try clear hk); (try clear hi); (try clear ho0)))
 go_ret2
 exact ⟨_, zw, mS_ HO1200.out, zs GE1196.out⟩
def laws_eqCellSS.l0 : Nat → List (List (S59)) → List (List (S59)) → Int → Option (Bool)
 | 0, _, _, _ => none
 | k + 1, x0, x1, x5 => if x5 < (x0.length : Int) then (if 0 ≤ x5 then (if x5 < (x1.length : Int) then ((laws_eqCellS.f k (rd_L2 x0 x5) (rd_L2 x1 x5)).bind fun t1203 => (if t1203 = true then (laws_eqCellSS.l0 k x0 x1 (wrap64 (x5 + 1))) else (some false))) else (none)) else (none)) else (some true)
def laws_eqCellSS.f (k : Nat) (l0 : List (List (S59))) (l1 : List (List (S59))) : Option (Bool) := if (l0.length : Int) = (l1.length : Int) then (laws_eqCellSS.l0 k l0 l1 0) else (some false)
def laws_eqCellSS.T6 : Bool × List (List Nat × List Nat) := (true, [([], []), ([], []), ([0, 1], [0, 1]), ([2], [2]), ([], []), ([], []), ([4, 5], [4, 5]), ([6], [6]), ([3, 7], [3, 7]), ([8], [8])])
def laws_eqCellSS.B6 : List Nat := [0, 0, 3, 7, 0, 0, 48, 112, 255, 511]
theorem laws_eqCellSS.tab6 : rtab .any (opsOf Try.f49 6) = laws_eqCellSS.T6 := by kernel_rfl
theorem laws_eqCellSS.bits6 : waitsOk laws_eqCellSS.T6.2 laws_eqCellSS.B6 = true := by kernel_rfl
theorem laws_eqCellSS.calls (k : Nat) (A0 : Option Addr) (c0 : Nat) (l0 : List (List (S59))) (A1 : Option Addr) (c1 : Nat) (l1 : List (List (S59))) (r : Bool) (w : World) (hr0 : Kd.C (Kd.slice 59 k59) w A0 l0.length l0) (hc0 : l0.length ≤ c0) (hr1 : Kd.C (Kd.slice 59 k59) w A1 l1.length l1) (hc1 : l1.length ≤ c1) (h : laws_eqCellSS.f k l0 l1 = some r) :
  Calls Try.prog 49 #[.slice A0 l0.length c0, .slice A1 l1.length c1] w fun e w' => e = .returned (.bool r) ∧ Below w.heap.size w w' := by
 have HR0 := aM hr0
 have HC0 := aM hc0
 clear hr0 hc0
 have HR1 := aM hr1
 have HC1 := aM hc1
 clear hr1 hc1
 have HB := aM (Below.refl w.heap.size w)
 have H : (if (l0.length : Int) = (l1.length : Int) then (laws_eqCellSS.l0 k l0 l1 0) else (some false)) = some r := h
 clear h
 by_cases c3 : (l0.length : Int) = (l1.length : Int)
 rotate_left
 ·rw [if_neg c3] at H
  have c3b0 : ((l0.length : Int) == (l1.length : Int)) = false := beq_eq_false_iff_ne.mpr c3
  have c3b1 : ((l0.length : Int) != (l1.length : Int)) = true := bne_iff_ne.mpr c3
  have c3b2 : (l0.length == l1.length) = false := by first | simpa using c3 | (simp at c3 ⊢; omega)
  obtain rfl := Option.some.inj H
  go_enter Try.func49, Try.ntmps49
  go_wp2
  go_ret
  exact ⟨zw, zb⟩
 rw [if_pos c3] at H
 have c3b0 : ((l0.length : Int) == (l1.length : Int)) = true := beq_iff_eq.mpr c3
 have c3b1 : ((l0.length : Int) != (l1.length : Int)) = false := bne_eq_false_iff_eq.mpr c3
 have c3b2 : (l0.length == l1.length) = true := by first | simpa using c3 | (simp at c3 ⊢; omega)
 clear c3
 have H' := aM H
 clear H
 go_enter Try.func49, Try.ntmps49
 go_wp2
 go_loopg [5] k (fun kq v5 w' => ∃ (x5_1 : Int), v5 = .int .i64 x5_1 ∧ Aside0 (laws_eqCellSS.l0 kq l0 l1 x5_1 = some r) ∧ Aside0 (kq ≤ k) ∧ Aside0 (Below w.heap.size w w'))
 case atStart => exact ⟨(0), zr, H', ⟨Nat.le_refl _⟩, ⟨zb⟩⟩
 case round =>
  clear H'
  try clear c1
  try clear p2
  try clear c3
  try clear c3b0
  try clear c3b1
  try clear c3b2
  obtain ⟨x5_1, rfl, HA, HK1, HB⟩ := hrel
  cases gk with
  | zero => exact absurd HA.out (by simp [laws_eqCellSS.l0])
  | succ k1 =>
   have H := HA.out
   clear HA
   simp only [laws_eqCellSS.l0] at H
   by_cases c4 : x5_1 < (l0.length : Int)
   rotate_left
   ·rw [if_neg c4] at H
    have c4b0 : decide (x5_1 < (l0.length : Int)) = false := decide_eq_false c4
    clear c4
    obtain rfl := Option.some.inj H
    go_wp2
    go_ret
    exact ⟨zw, zb⟩
   rw [if_pos c4] at H
   have c4b0 : decide (x5_1 < (l0.length : Int)) = true := decide_eq_true c4
   clear c4
   by_cases c5 : 0 ≤ x5_1
   rotate_left
   ·rw [if_neg c5] at H
    exact absurd H (by simp)
   rw [if_pos c5] at H
   have c5b0 : decide (0 ≤ x5_1) = true := decide_eq_true c5
   clear c5
   by_cases c6 : x5_1 < (l1.length : Int)
   rotate_left
   ·rw [if_neg c6] at H
    exact absurd H (by simp)
   rw [if_pos c6] at H
   have c6b0 : decide (x5_1 < (l1.length : Int)) = true := decide_eq_true c6
   clear c6
   replace H := Option.bind_eq_some_iff.mp H
   obtain ⟨t1203, A70, H⟩ := H
   replace H : (if t1203 = true then (laws_eqCellSS.l0 k1 l0 l1 (wrap64 (x5_1 + 1))) else (some false)) = some r := H
   have A7 := aM A70
   clear A70
   by_cases c8 : t1203 = true
   rotate_left
   ·replace c8 := Bool.eq_false_iff.mpr c8
    subst c8
    have H1 : (some false) = some r := by rw [if_neg (show ¬ (false = true) by decide)] at H; exact H
    clear H
    have H := H1
    clear H1
    obtain rfl := Option.some.inj H
    try go_wp2
    have n0_ := aM (below_drew1 HB.out)
    clear HB
    have HB := n0_
    clear n0_
    have p1201 : 0 ≤ (x5_1 : Int) := of_decide_eq_true za
    have q1201 : x5_1 < (l0.length : Int) := of_decide_eq_true za
    obtain ⟨ad1201, A1201_0, c1201_0, e1201, hx1201_0, hl1201_0, hi1201_0⟩ := at_L2 HR0.out x5_1 p1201 q1201
    have hw1201_0 := hx1201_0
    cases e1201
    replace hx1201_0 := zk HB.out hx1201_0
    have HR1201_0 := aM hi1201_0
    have HC1201_0 := aM hl1201_0
    clear hi1201_0 hl1201_0
    replace p1201 := eq_true p1201
    replace q1201 := eq_true q1201
    have p1202 : 0 ≤ (x5_1 : Int) := of_decide_eq_true za
    have q1202 : x5_1 < (l1.length : Int) := of_decide_eq_true za
    obtain ⟨ad1202, A1202_0, c1202_0, e1202, hx1202_0, hl1202_0, hi1202_0⟩ := at_L2 HR1.out x5_1 p1202 q1202
    have hw1202_0 := hx1202_0
    cases e1202
    replace hx1202_0 := zk HB.out hx1202_0
    have HR1202_0 := aM hi1202_0
    have HC1202_0 := aM hl1202_0
    clear hi1202_0 hl1202_0
    replace p1202 := eq_true p1202
    replace q1202 := eq_true q1202
    refine start_ (n := 10) (S := fun w' => w'.cell? (ad1201.add (x5_1).toNat) = some (.slice A1201_0 (rd_L2 l0 x5_1).length c1201_0) ∧ w'.cell? (ad1202.add (x5_1).toNat) = some (.slice A1202_0 (rd_L2 l1 x5_1).length c1202_0)) (ds := []) zA0 (by kernel_rfl) rfl rfl ⟨(zk HB.out hw1201_0), (zk HB.out hw1202_0)⟩ (fun hHeld => ?_); refine with_tabW laws_eqCellSS.tab6 laws_eqCellSS.bits6 (fun HT_ HW_ => ?_)
    generalize wr.drew = w11 at HB HR1201_0 HR1202_0 hx1201_0 hx1202_0 hHeld ⊢
    refine zp 0 (some 17) ?_ zA1 rfl rfl (Or.inl ⟨by rfl, ?_⟩) ?_ ?_ ?_
    rotate_left
    ·intro w'
     go_simp
     with_reducible rfl
    rotate_left
    ·simp only [Act.put, xA, xB, xC, i64_w, i32_w]
     rfl
    refine zp 1 (some 18) ?_ zA2 rfl rfl (Or.inl ⟨by rfl, ?_⟩) ?_ ?_ ?_
    rotate_left
    ·intro w'
     go_simp
     with_reducible rfl
    rotate_left
    ·simp only [Act.put, xA, xB, xC, i64_w, i32_w]
     rfl
    refine zp 2 (some 19) ?_ zA3 rfl rfl (Or.inl ⟨by rfl, ?_⟩) ?_ ?_ ?_
    rotate_left
    ·intro w'
     go_simp
     with_reducible rfl
    rotate_left
    ·simp only [Act.put, xA, xB, xC, i64_w, i32_w]
     rfl
    refine zp 4 (some 21) ?_ zA4 rfl rfl (Or.inl ⟨by rfl, ?_⟩) ?_ ?_ ?_
    rotate_left
    ·intro w'
     go_simp
     with_reducible rfl
    rotate_left
    ·simp only [Act.put, xA, xB, xC, i64_w, i32_w]
     rfl
    refine zp 5 (some 22) ?_ zA5 rfl rfl (Or.inl ⟨by rfl, ?_⟩) ?_ ?_ ?_
    rotate_left
    ·intro w'
     go_simp
     with_reducible rfl
    rotate_left
    ·simp only [Act.put, xA, xB, xC, i64_w, i32_w]
     rfl
    refine zp 6 (some 23) ?_ zA6 rfl rfl (Or.inl ⟨by rfl, ?_⟩) ?_ ?_ ?_
    rotate_left
    ·intro w'
     go_simp
     with_reducible rfl
    rotate_left
    ·simp only [Act.put, xA, xB, xC, i64_w, i32_w]
     rfl
    refine zu 3 (some 20) ?_ zA7 rfl rfl (Or.inl ⟨by rfl, ?_⟩) hHeld ?_ ?_ ?_
    rotate_left
    ·rintro w' ⟨s0, s1⟩
     go_simp
     with_reducible rfl
    rotate_left
    ·simp only [Act.put, xA, xB, xC, i64_w, i32_w]
     rfl
    refine zu 7 (some 24) ?_ zA8 rfl rfl (Or.inl ⟨by rfl, ?_⟩) hHeld ?_ ?_ ?_
    rotate_left
    ·rintro w' ⟨s0, s1⟩
     go_simp
     with_reducible rfl
    rotate_left
    ·simp only [Act.put, xA, xB, xC, i64_w, i32_w]
     rfl
    refine one_ (i := 8) (N := some 25) zA9 rfl rfl (one_of HT_.out (by kernel_rfl)) (by decide) (fun K hK => ?_)
    refine goes_ Try.func13 (by kernel_rfl) rfl #[.slice A1201_0 (rd_L2 l0 x5_1).length c1201_0, .slice A1202_0 (rd_L2 l1 x5_1).length c1202_0] (by rfl) rfl rfl zm ?_
    with_reducible refine (laws_eqCellS.calls k1 _ _ (rd_L2 l0 x5_1) _ _ (rd_L2 l1 x5_1) false _ ?side1 ?side2 ?side3 ?side4 A7.out).mono ?_
    (case side1 => repeat (first | exact (Kd.C_below HR1201_0.out HB.out) | (with_reducible refine Kd.C_alloc ?_ _) | (with_reducible refine Kd.C_drewN ?_ _) | (with_reducible refine Kd.C_drew ?_)))
    (case side2 => exact HC1201_0.out)
    (case side3 => repeat (first | exact (Kd.C_below HR1202_0.out HB.out) | (with_reducible refine Kd.C_alloc ?_ _) | (with_reducible refine Kd.C_drewN ?_ _) | (with_reducible refine Kd.C_drew ?_)))
    (case side4 => exact HC1202_0.out)
    rintro e w12 ⟨rfl, hb⟩
    refine ⟨_, rfl, ?_⟩
    have n0_ := aM (below_step zb hb)
    clear HB
    have HB := n0_
    clear n0_
    (try clear hb)
    (try clear hb2)
    (try clear hk)
    (try clear hi)
    refine hK.out _ _ ⟨(zk HB.out hw1201_0), (zk HB.out hw1202_0)⟩ (fun hHeld => ?_)
    clear hK K
    refine norm_ (a' := ?_) ?_ ?_
    rotate_left
    ·show Act.put _ (some 25) _ = _
     simp only [Act.put, xA, xB, xC, i64_w, i32_w]
     rfl
    refine zp 9 (some 26) ?_ zA10 rfl rfl (Or.inl ⟨by rfl, ?_⟩) ?_ ?_ ?_
    rotate_left
    ·intro w'
     go_simp
     with_reducible rfl
    rotate_left
    ·simp only [Act.put, xA, xB, xC, i64_w, i32_w]
     rfl
    refine done_ (done_of HT_.out (by kernel_rfl)) ?_
    try go_wp2
    go_ret
    exact ⟨zw, zb⟩
   subst c8
   have H1 : (laws_eqCellSS.l0 k1 l0 l1 (wrap64 (x5_1 + 1))) = some r := by rw [if_pos rfl] at H; exact H
   clear H
   have H := H1
   clear H1
   have H' := aM H
   clear H
   try go_wp2
   have n0_ := aM (below_drew1 HB.out)
   clear HB
   have HB := n0_
   clear n0_
   have p1201 : 0 ≤ (x5_1 : Int) := of_decide_eq_true za
   have q1201 : x5_1 < (l0.length : Int) := of_decide_eq_true za
   obtain ⟨ad1201, A1201_0, c1201_0, e1201, hx1201_0, hl1201_0, hi1201_0⟩ := at_L2 HR0.out x5_1 p1201 q1201
   have hw1201_0 := hx1201_0
   cases e1201
   replace hx1201_0 := zk HB.out hx1201_0
   have HR1201_0 := aM hi1201_0
   have HC1201_0 := aM hl1201_0
   clear hi1201_0 hl1201_0
   replace p1201 := eq_true p1201
   replace q1201 := eq_true q1201
   have p1202 : 0 ≤ (x5_1 : Int) := of_decide_eq_true za
   have q1202 : x5_1 < (l1.length : Int) := of_decide_eq_true za
   obtain ⟨ad1202, A1202_0, c1202_0, e1202, hx1202_0, hl1202_0, hi1202_0⟩ := at_L2 HR1.out x5_1 p1202 q1202
   have hw1202_0 := hx1202_0
   cases e1202
   replace hx1202_0 := zk HB.out hx1202_0
   have HR1202_0 := aM hi1202_0
   have HC1202_0 := aM hl1202_0
   clear hi1202_0 hl1202_0
   replace p1202 := eq_true p1202
   replace q1202 := eq_true q1202
   refine start_ (n := 10) (S := fun w' => w'.cell? (ad1201.add (x5_1).toNat) = some (.slice A1201_0 (rd_L2 l0 x5_1).length c1201_0) ∧ w'.cell? (ad1202.add (x5_1).toNat) = some (.slice A1202_0 (rd_L2 l1 x5_1).length c1202_0)) (ds := []) zA0 (by kernel_rfl) rfl rfl ⟨(zk HB.out hw1201_0), (zk HB.out hw1202_0)⟩ (fun hHeld => ?_); refine with_tabW laws_eqCellSS.tab6 laws_eqCellSS.bits6 (fun HT_ HW_ => ?_)
   generalize wr.drew = w9 at HB HR1201_0 HR1202_0 hx1201_0 hx1202_0 hHeld ⊢
   refine zp 0 (some 17) ?_ zA1 rfl rfl (Or.inl ⟨by rfl, ?_⟩) ?_ ?_ ?_
   rotate_left
   ·intro w'
    go_simp
    with_reducible rfl
   rotate_left
   ·simp only [Act.put, xA, xB, xC, i64_w, i32_w]
    rfl
   refine zp 1 (some 18) ?_ zA2 rfl rfl (Or.inl ⟨by rfl, ?_⟩) ?_ ?_ ?_
   rotate_left
   ·intro w'
    go_simp
    with_reducible rfl
   rotate_left
   ·simp only [Act.put, xA, xB, xC, i64_w, i32_w]
    rfl
   refine zp 2 (some 19) ?_ zA3 rfl rfl (Or.inl ⟨by rfl, ?_⟩) ?_ ?_ ?_
   rotate_left
   ·intro w'
    go_simp
    with_reducible rfl
   rotate_left
   ·simp only [Act.put, xA, xB, xC, i64_w, i32_w]
    rfl
   refine zp 4 (some 21) ?_ zA4 rfl rfl (Or.inl ⟨by rfl, ?_⟩) ?_ ?_ ?_
   rotate_left
   ·intro w'
    go_simp
    with_reducible rfl
   rotate_left
   ·simp only [Act.put, xA, xB, xC, i64_w, i32_w]
    rfl
   refine zp 5 (some 22) ?_ zA5 rfl rfl (Or.inl ⟨by rfl, ?_⟩) ?_ ?_ ?_
   rotate_left
   ·intro w'
    go_simp
    with_reducible rfl
   rotate_left
   ·simp only [Act.put, xA, xB, xC, i64_w, i32_w]
    rfl
   refine zp 6 (some 23) ?_ zA6 rfl rfl (Or.inl ⟨by rfl, ?_⟩) ?_ ?_ ?_
   rotate_left
   ·intro w'
    go_simp
    with_reducible rfl
   rotate_left
   ·simp only [Act.put, xA, xB, xC, i64_w, i32_w]
    rfl
   refine zu 3 (some 20) ?_ zA7 rfl rfl (Or.inl ⟨by rfl, ?_⟩) hHeld ?_ ?_ ?_
   rotate_left
   ·rintro w' ⟨s0, s1⟩
    go_simp
    with_reducible rfl
   rotate_left
   ·simp only [Act.put, xA, xB, xC, i64_w, i32_w]
    rfl
   refine zu 7 (some 24) ?_ zA8 rfl rfl (Or.inl ⟨by rfl, ?_⟩) hHeld ?_ ?_ ?_
   rotate_left
   ·rintro w' ⟨s0, s1⟩
    go_simp
    with_reducible rfl
   rotate_left
   ·simp only [Act.put, xA, xB, xC, i64_w, i32_w]
    rfl
   refine one_ (i := 8) (N := some 25) zA9 rfl rfl (one_of HT_.out (by kernel_rfl)) (by decide) (fun K hK => ?_)
   refine goes_ Try.func13 (by kernel_rfl) rfl #[.slice A1201_0 (rd_L2 l0 x5_1).length c1201_0, .slice A1202_0 (rd_L2 l1 x5_1).length c1202_0] (by rfl) rfl rfl zm ?_
   with_reducible refine (laws_eqCellS.calls k1 _ _ (rd_L2 l0 x5_1) _ _ (rd_L2 l1 x5_1) true _ ?side1 ?side2 ?side3 ?side4 A7.out).mono ?_
   (case side1 => repeat (first | exact (Kd.C_below HR1201_0.out HB.out) | (with_reducible refine Kd.C_alloc ?_ _) | (with_reducible refine Kd.C_drewN ?_ _) | (with_reducible refine Kd.C_drew ?_)))
   (case side2 => exact HC1201_0.out)
   (case side3 => repeat (first | exact (Kd.C_below HR1202_0.out HB.out) | (with_reducible refine Kd.C_alloc ?_ _) | (with_reducible refine Kd.C_drewN ?_ _) | (with_reducible refine Kd.C_drew ?_)))
   (case side4 => exact HC1202_0.out)
   rintro e w10 ⟨rfl, hb⟩
   refine ⟨_, rfl, ?_⟩
   have n0_ := aM (below_step zb hb)
   clear HB
   have HB := n0_
   clear n0_
   (try clear hb)
   (try clear hb2)
   (try clear hk)
   (try clear hi)
   refine hK.out _ _ ⟨(zk HB.out hw1201_0), (zk HB.out hw1202_0)⟩ (fun hHeld => ?_)
   clear hK K
   refine norm_ (a' := ?_) ?_ ?_
   rotate_left
   ·show Act.put _ (some 25) _ = _
    simp only [Act.put, xA, xB, xC, i64_w, i32_w]
    rfl
   refine zp 9 (some 26) ?_ zA10 rfl rfl (Or.inl ⟨by rfl, ?_⟩) ?_ ?_ ?_
   rotate_left
   ·intro w'
    go_simp
    with_reducible rfl
   rotate_left
   ·simp only [Act.put, xA, xB, xC, i64_w, i32_w]
    rfl
   refine done_ (done_of HT_.out (by kernel_rfl)) ?_
   try go_wp2
   go_roundg k1
   case measure => have := HK1.out; omega
   case rel => exact ⟨(wrap64 (x5_1 + 1)), zr, H', ⟨by have := HK1.out; omega⟩, ⟨zb⟩⟩
def laws_markPiece.f (k : Nat) (l0_0 : List (S59)) (a0_1 : Int) (a0_2 : Bool) (a1 : Int) : Option (Int × (List (S59))) := (laws_markCellS.f k l0_0 a1).bind fun bt1205 => (some (bt1205.1, bt1205.2))
theorem laws_markPiece.calls (k : Nat) (P0_0_ : Nat → Prop) (u9000_ : Value) (l0_0 : List (S59)) (a0_1 : Int) (a0_2 : Bool) (a1 : Int) (r1 : Int) (r2 : List (S59)) (w0 w : World) (hB : Below w0.heap.size w0 w) (ho0_0 : Kd.R k59 59 w w0.heap.size P0_0_ u9000_ l0_0) (h : laws_markPiece.f k l0_0 a0_1 a0_2 a1 = some (r1, r2)) :
  Calls Try.prog 50 #[.agg #[u9000_, .int .i64 a0_1, .bool a0_2], .int .i64 a1] w fun e w' => e = .returned (.int .i64 r1) ∧ Kd.R k59 59 w' w0.heap.size (fun k_ => (P0_0_ k_ ∨ w.heap.size ≤ k_)) u9000_ r2 ∧ Below w0.heap.size w0 w' ∧ Kept w w' (fun k_ => P0_0_ k_) := by
 have hu51 := Try.underlying51
 have HO0_0 := aM (show Kd.R k59 59 w w0.heap.size (fun k_ => (P0_0_ k_ ∨ w.heap.size ≤ k_)) u9000_ l0_0 from Kd.R_mono ho0_0 (fun k_ hk => (.inl hk)))
 have HK := aM (Kept.refl w (fun k_ => P0_0_ k_))
 have HW0 := aM hB.size
 have HB := aM hB
 clear hB
 have H : ((laws_markCellS.f k l0_0 a1).bind fun bt1205 => (some (bt1205.1, bt1205.2))) = some (r1, r2) := h
 clear h
 replace H := Option.bind_eq_some_iff.mp H
 obtain ⟨⟨t1205, t1206⟩, A30, H⟩ := H
 replace H : (some (t1205, t1206)) = some (r1, r2) := H
 have A3 := aM A30
 clear A30
 simp only [Option.some.injEq, Prod.mk.injEq] at H
 obtain ⟨rfl, rfl⟩ := H
 obtain ⟨Ao4, co4, eo4⟩ := Kd.R_slice HO0_0.out
 subst eo4
 go_enter Try.func50, Try.ntmps50
 go_wp2_with (first | ((with_reducible refine gate_dst (N := 2) rfl ?_); refine zx 2 #[.slice Ao4 l0_0.length co4, .int .i64 a0_1, .bool a0_2] 51 ?_; intro gb1204 hg w5 hbox hb; have n0_ := aM (Kd.R_below (mR_ HO0_0.out) hb); have n1_ := aM (Kept.below (S := (fun k_ => P0_0_ k_)) (by repeat (first | (with_reducible first | exact HK.out | apply Kept.alloc | apply Kept.drewN | apply Kept.drew) | exact HK.out)) hb); have n2_ := aM (below_step zb hb); have n3_ := aM (hbox); have n4_ := aM ((by rw [hg]; exact (by first | exact HK.out.1 | exact (show Kept w _ (fun k_ => P0_0_ k_) from by repeat (first | (with_reducible first | exact HK.out | apply Kept.alloc | apply Kept.drewN | apply Kept.drew) | exact HK.out)).1) : w.heap.size ≤ gb1204)); have n5_ := aM ((ze : w0.heap.size ≤ gb1204)); clear HO0_0 HK HB; have HO0_0 := n0_; have HK := n1_; have HB := n2_; have BK1204 := n3_; have GW1204 := n4_; have GE1204 := n5_; clear n0_ n1_ n2_ n3_ n4_ n5_ hb hbox hg; have hcz6_0 : w5.cell? ⟨gb1204, 0, none⟩ = some (.slice Ao4 l0_0.length co4) := (blk_cell BK1204.out 0).trans rfl; have hcz6_1 : w5.cell? ⟨gb1204, 1, none⟩ = some (.int .i64 a0_1) := (blk_cell BK1204.out 1).trans rfl; have hcz6_2 : w5.cell? ⟨gb1204, 2, none⟩ = some (.bool a0_2) := (blk_cell BK1204.out 2).trans rfl; have hfz6_0 := blk_frozen BK1204.out 0; have hfz6_1 := blk_frozen BK1204.out 1; have hfz6_2 := blk_frozen BK1204.out 2) | ((with_reducible refine gate_callee (f := 14) rfl ?_); refine goesL_ (some 8) rfl rfl Try.func14 (by kernel_rfl) rfl #[.slice Ao4 l0_0.length co4, .int .i64 a1] rfl zm ?_; (with_reducible refine (laws_markCellS.calls k (fun k_ => some k_ = (.slice Ao4 l0_0.length co4 : Value).ownBlock) (.slice Ao4 l0_0.length co4) l0_0 a1 t1205 t1206 w0 _ ?side1 ?side2 A3.out).mono ?_); (case side1 => repeat (first | (with_reducible first | exact HB.out | apply below_alloc | apply pw_below_drewN | apply below_drew1 | refine below_set ?_ GE1204.out) | exact HB.out)); (case side2 => exact Kd.R_tight rfl HO0_0.out); rintro e w7 ⟨rfl, hy0, hb, hkp⟩; refine ⟨_, rfl, ?_⟩; have n0_ := aM (Kd.R_reok rfl hy0 (fun k_ e_ => HO0_0.out.1 k_ e_)); have n1_ := aM (blk_kept (mB_ BK1204.out) hkp (fun hs_ => (fun e_ => (Kd.R_ne HO0_0.out BK1204.out (by decide)) e_) hs_)); have n2_ := aM (Kept.then_ (S := (fun k_ => P0_0_ k_)) (by repeat (first | (with_reducible first | exact HK.out | apply Kept.alloc | apply Kept.drewN | apply Kept.drew | refine Kept.setCell ?_ (.inr GW1204.out) _) | exact HK.out)) hkp (fun k_ hs_ => (fun e_ => (HO0_0.out.1 k_ e_.symm)) hs_)); have n3_ := aM (hb); clear HO0_0 BK1204 HK HB; have HO0_0 := n0_; have BK1204 := n1_; have HK := n2_; have HB := n3_; clear n0_ n1_ n2_ n3_; (try clear hb); (try clear hkp); (try clear hy0)))
 go_ret
 exact ⟨zw, mR_ HO0_0.out, zs GE1204.out, by repeat (first | (with_reducible first | exact HK.out | apply Kept.alloc | apply Kept.drewN | apply Kept.drew | refine Kept.setCell ?_ (.inr GW1204.out) _) | exact HK.out)⟩
theorem V_part_ {α : Type} {d : Kd α} {e base g1 g2 : Nat} {W w1 : World} {u v : Value} {xs ys : List α} {ok ok2 : Nat → Prop} (h4 : Kd.V d e W base ok v xs) (h7 : Kd.S d e w1 W.heap.size ok2 u ys) (hb : Below W.heap.size W w1) (hB : base ≤ W.heap.size) (n1 : g1 < W.heap.size) (n2 : g2 < W.heap.size) :
    ∃ N : Nat, Kd.V d e w1 base (fun k => ok k ∧ k < N) v xs ∧ Kd.S d e w1 base (fun k => ok2 k ∧ N ≤ k) u ys ∧ g1 < N ∧ g2 < N :=
  ⟨W.heap.size, Kd.V_old h4 hb, Kd.S_lower (Kd.S_mono (Kd.S_bound h7) (fun _ hk => ⟨hk.1, hk.2.1⟩)) hB, n1, n2⟩
theorem R_self_ {e base : Nat} {W : World} {v : Value} {xs : List S59} {ok : Nat → Prop} (h : Kd.R k59 e W base ok v xs) : Kd.R k59 e W base (fun k => v.ownBlock = some k) v xs :=
  ⟨fun _ hk => hk, h.2.imp_ (fun p c hp => by rw [k59_openM hp]; exact k59_mkM _ _ _ _)⟩
def laws_markCellSS.l0 : Nat → List (List S59) → Int → Int → Option (Int × List (List S59))
 | 0, _, _, _ => none
 | k + 1, x0, x1, x5 => if x5 < (x0.length : Int) then (if 0 ≤ x5 then ((laws_markCellS.f k (x0.getD x5.toNat []) x1).bind fun bt => (laws_markCellSS.l0 k (x0.set x5.toNat bt.2) bt.1 (wrap64 (x5 + 1)))) else (none)) else (some (x1, x0))
def laws_markCellSS.f (k : Nat) (l0 : List (List S59)) (a1 : Int) : Option (Int × List (List S59)) := laws_markCellSS.l0 k l0 a1 0
set_option maxHeartbeats 4000000 in
theorem laws_markCellSS.calls (k : Nat) (P0_ : Nat → Prop) (u9000_ : Value) (l0 : List (List S59)) (a1 : Int) (r1 : Int) (r2 : List (List S59)) (w0 w : World) (hB : Below w0.heap.size w0 w) (ho0 : Kd.S (Kd.slice 59 k59) 24 w w0.heap.size P0_ u9000_ l0) (h : laws_markCellSS.f k l0 a1 = some (r1, r2)) :
    Calls Try.prog 51 #[u9000_, .int .i64 a1] w fun e w' => e = .returned (.int .i64 r1) ∧ Kd.S (Kd.slice 59 k59) 24 w' w0.heap.size (fun k_ => (P0_ k_ ∨ w.heap.size ≤ k_)) u9000_ r2 ∧ Below w0.heap.size w0 w' ∧ Kept w w' (fun k_ => P0_ k_) := by
  have HO0 := aM (show Kd.S (Kd.slice 59 k59) 24 w w0.heap.size (fun k_ => (P0_ k_ ∨ w.heap.size ≤ k_)) u9000_ l0 from Kd.S_mono ho0 (fun k_ hk => (.inl hk)))
  have HK := aM (Kept.refl w (fun k_ => P0_ k_))
  have HB := aM hB
  have H' := aM (show laws_markCellSS.l0 k l0 a1 0 = some (r1, r2) from h)
  clear h ho0 hB
  go_enter Try.func51, Try.ntmps51
  go_wp2
  go_loopg [1, 5] k (fun kq v1 v5 w' => ∃ (x0_1 : List (List S59)) (x1_1 : Int) (x5_1 : Int), v1 = .int .i64 x1_1 ∧ v5 = .int .i64 x5_1 ∧ Aside0 (laws_markCellSS.l0 kq x0_1 x1_1 x5_1 = some (r1, r2)) ∧ Aside0 (kq ≤ k) ∧ Aside0 (Kd.S (Kd.slice 59 k59) 24 w' w0.heap.size (fun k_ => (P0_ k_ ∨ w.heap.size ≤ k_)) u9000_ x0_1) ∧ Aside0 (Kept w w' (fun k_ => P0_ k_)) ∧ Aside0 (Below w0.heap.size w0 w'))
  case atStart => exact ⟨(l0), (a1), (0), rfl, rfl, H', ⟨Nat.le_refl _⟩, ⟨mS_ HO0.out⟩, ⟨by repeat (first | (with_reducible first | exact HK.out | apply Kept.alloc | apply Kept.drewN | apply Kept.drew) | exact HK.out)⟩, ⟨zb⟩⟩
  case round =>
    clear H'
    obtain ⟨x0_1, x1_1, x5_1, rfl, rfl, HA, HK1, HO_0, HK, HB⟩ := hrel
    cases gk with
    | zero => exact absurd HA.out (by simp [laws_markCellSS.l0])
    | succ k1 =>
      have H := HA.out
      clear HA
      simp only [laws_markCellSS.l0] at H
      by_cases c3 : x5_1 < (x0_1.length : Int)
      · rw [if_pos c3] at H
        have c3b0 : decide (x5_1 < (x0_1.length : Int)) = true := decide_eq_true c3
        by_cases c4 : 0 ≤ x5_1
        · rw [if_pos c4] at H
          have c4b0 : decide (0 ≤ x5_1) = true := decide_eq_true c4
          replace H := Option.bind_eq_some_iff.mp H
          obtain ⟨⟨t1, t2⟩, A50, H⟩ := H
          have A5 := aM A50
          have H' := aM H
          clear A50 H
          obtain ⟨go5, co5, eo5, gb5, gl5, _⟩ := Kd.S_form HO_0.out (by omega)
          subst eo5
          obtain ⟨oki, cc, hcl, hM, hcc, hoki, hH⟩ := Kd.S_lend HO_0.out [] x5_1 c4 c3
          obtain ⟨v5, rfl, hv⟩ := hM
          have hx : wr.cell? ⟨go5, x5_1.toNat, none⟩ = some v5 := by
            have := hcc 0 v5 rfl
            rw [show (Kd.slice 59 k59).sz = 1 from rfl, Nat.mul_one, Nat.add_zero] at this
            exact this
          have hx2 : wr.cell? ((⟨go5, 0, none⟩ : Addr).add x5_1.toNat) = some v5 := by rw [add_plain]; exact hx
          have HV := aM hv
          have HH := aM hH
          have HOK := aM hoki
          clear hcl hcc hoki hH hv
          replace c3 := eq_true c3
          replace c4 := eq_true c4
          go_wp2_with fail
          refine (laws_markCellS.calls k1 oki v5 _ x1_1 t1 t2 w0 wr HB.out HV.out A5.out).mono ?_
          rintro e w1 ⟨rfl, hR, hb, hkp⟩
          have n0_ := aM (Kd.H_back (Kd.H_kept (Kd.H_widen HH.out) hkp (fun k_ _ hn hk => hn (.inl hk))) (okp := fun k_ => oki k_ ∨ wr.heap.size ≤ k_) ⟨_, rfl, hR⟩ (fun k_ hk => hk.elim .inl (fun hk => .inr ⟨.inr (Nat.le_trans HK.out.1 hk), hk⟩)))
          have n1_ := aM (HK.out.then_ hkp (fun k_ hk => (HOK.out k_ hk).1))
          have n2_ := aM hb
          clear HO_0 HK HB HV HH HOK hR hb hkp
          have HO_0 := n0_
          have HK := n1_
          have HB := n2_
          clear n0_ n1_ n2_
          go_wp2
          go_roundg k1
          case measure => have := HK1.out; omega
          case rel => exact ⟨_, _, _, rfl, rfl, H', ⟨by have := HK1.out; omega⟩, ⟨mS_ HO_0.out⟩, ⟨by repeat (first | (with_reducible first | exact HK.out | apply Kept.alloc | apply Kept.drewN | apply Kept.drew) | exact HK.out)⟩, ⟨zb⟩⟩
        · rw [if_neg c4] at H
          cases H
      · rw [if_neg c3] at H
        have c3b0 : decide (x5_1 < (x0_1.length : Int)) = false := decide_eq_false c3
        obtain ⟨Ao7, co7, rfl⟩ := Kd.S_slice HO_0.out
        injection H with H
        injection H with H1 H2
        subst H1 H2
        go_wp2
        go_ret
        exact ⟨rfl, mS_ HO_0.out, zb, by repeat (first | (with_reducible first | exact HK.out | apply Kept.alloc | apply Kept.drewN | apply Kept.drew) | exact HK.out)⟩
def laws_heldCellSS.l0 : Nat → List (List (S59)) → Int → Int → Option (Int)
 | 0, _, _, _ => none
 | k + 1, x0, x1, x5 => if x5 < (x0.length : Int) then (if 0 ≤ x5 then ((laws_heldCellS.f k (rd_L2 x0 x5) x1).bind fun t1208 => (if t1208 < 0 then (some (-1)) else (laws_heldCellSS.l0 k x0 t1208 (wrap64 (x5 + 1))))) else (none)) else (some x1)
def laws_heldCellSS.f (k : Nat) (l0 : List (List (S59))) (a1 : Int) : Option (Int) := laws_heldCellSS.l0 k l0 a1 0
theorem laws_heldCellSS.calls (k : Nat) (A0 : Option Addr) (c0 : Nat) (l0 : List (List (S59))) (a1 : Int) (r : Int) (w : World) (hr0 : Kd.C (Kd.slice 59 k59) w A0 l0.length l0) (hc0 : l0.length ≤ c0) (h : laws_heldCellSS.f k l0 a1 = some r) :
  Calls Try.prog 52 #[.slice A0 l0.length c0, .int .i64 a1] w fun e w' => e = .returned (.int .i64 r) ∧ Drawn0 w w' := by
 have HR0 := aM hr0
 have HC0 := aM hc0
 clear hr0 hc0
 have H : (laws_heldCellSS.l0 k l0 a1 0) = some r := h
 clear h
 have H' := aM H
 clear H
 go_enter Try.func52, Try.ntmps52
 go_wp2
 go_loopg [1, 5] k (fun kq v1 v5 w' => ∃ (x1_1 : Int) (x5_1 : Int), v1 = .int .i64 x1_1 ∧ v5 = .int .i64 x5_1 ∧ Aside0 (laws_heldCellSS.l0 kq l0 x1_1 x5_1 = some r) ∧ Aside0 (kq ≤ k) ∧ Drawn0 w w')
 case atStart => exact ⟨(a1), (0), zr, zr, H', ⟨Nat.le_refl _⟩, by repeat (first | exact Drawn0.refl _ | apply Drawn0.step)⟩
 case round =>
  clear H'
  try clear p2
  obtain ⟨x1_1, x5_1, rfl, rfl, HA, HK1, ⟨m1, rfl⟩⟩ := hrel
  cases gk with
  | zero => exact absurd HA.out (by simp [laws_heldCellSS.l0])
  | succ k1 =>
   have H := HA.out
   clear HA
   simp only [laws_heldCellSS.l0] at H
   by_cases c3 : x5_1 < (l0.length : Int)
   rotate_left
   ·rw [if_neg c3] at H
    have c3b0 : decide (x5_1 < (l0.length : Int)) = false := decide_eq_false c3
    clear c3
    obtain rfl := Option.some.inj H
    go_wp2
    go_ret
    exact ⟨by first | rfl | (simp; done) | (simp [*]; done), by repeat (first | exact Drawn0.refl _ | apply Drawn0.step)⟩
   rw [if_pos c3] at H
   have c3b0 : decide (x5_1 < (l0.length : Int)) = true := decide_eq_true c3
   clear c3
   by_cases c4 : 0 ≤ x5_1
   rotate_left
   ·rw [if_neg c4] at H
    exact absurd H (by simp)
   rw [if_pos c4] at H
   have c4b0 : decide (0 ≤ x5_1) = true := decide_eq_true c4
   clear c4
   replace H := Option.bind_eq_some_iff.mp H
   obtain ⟨t1208, A50, H⟩ := H
   replace H : (if t1208 < 0 then (some (-1)) else (laws_heldCellSS.l0 k1 l0 t1208 (wrap64 (x5_1 + 1)))) = some r := H
   have A5 := aM A50
   clear A50
   by_cases c6 : t1208 < 0
   ·rw [if_pos c6] at H
    have c6b0 : decide (t1208 < 0) = true := decide_eq_true c6
    clear c6
    obtain rfl := Option.some.inj H
    have p1207 : 0 ≤ (x5_1 : Int) := of_decide_eq_true za
    have q1207 : x5_1 < (l0.length : Int) := of_decide_eq_true za
    obtain ⟨ad1207, A1207_0, c1207_0, e1207, hx1207_0, hl1207_0, hi1207_0⟩ := at_L2 HR0.out x5_1 p1207 q1207
    cases e1207
    have HR1207_0 := aM hi1207_0
    have HC1207_0 := aM hl1207_0
    clear hi1207_0 hl1207_0
    replace p1207 := eq_true p1207
    replace q1207 := eq_true q1207
    go_wp2_with (first | ((with_reducible refine gate_callee (f := 15) rfl ?_); refine goesL_ (some 17) rfl rfl Try.func15 (by kernel_rfl) rfl #[.slice A1207_0 (rd_L2 l0 x5_1).length c1207_0, .int .i64 x1_1] rfl zm ?_; (with_reducible refine (laws_heldCellS.calls k1 _ _ (rd_L2 l0 x5_1) x1_1 t1208 _ ?side1 ?side2 A5.out).mono ?_); (case side1 => repeat (first | exact HR1207_0.out | (with_reducible refine Kd.C_alloc ?_ _) | (with_reducible refine Kd.C_drewN ?_ _) | (with_reducible refine Kd.C_drew ?_))); (case side2 => exact HC1207_0.out); rintro e w' ⟨rfl, ⟨nd, rfl⟩⟩; refine ⟨_, rfl, ?_⟩))
    go_ret
    exact ⟨by first | rfl | (simp; done) | (simp [*]; done), by repeat (first | exact Drawn0.refl _ | apply Drawn0.step)⟩
   rw [if_neg c6] at H
   have c6b0 : decide (t1208 < 0) = false := decide_eq_false c6
   clear c6
   have H' := aM H
   clear H
   have p1207 : 0 ≤ (x5_1 : Int) := of_decide_eq_true za
   have q1207 : x5_1 < (l0.length : Int) := of_decide_eq_true za
   obtain ⟨ad1207, A1207_0, c1207_0, e1207, hx1207_0, hl1207_0, hi1207_0⟩ := at_L2 HR0.out x5_1 p1207 q1207
   cases e1207
   have HR1207_0 := aM hi1207_0
   have HC1207_0 := aM hl1207_0
   clear hi1207_0 hl1207_0
   replace p1207 := eq_true p1207
   replace q1207 := eq_true q1207
   go_wp2_with (first | ((with_reducible refine gate_callee (f := 15) rfl ?_); refine goesL_ (some 17) rfl rfl Try.func15 (by kernel_rfl) rfl #[.slice A1207_0 (rd_L2 l0 x5_1).length c1207_0, .int .i64 x1_1] rfl zm ?_; (with_reducible refine (laws_heldCellS.calls k1 _ _ (rd_L2 l0 x5_1) x1_1 t1208 _ ?side1 ?side2 A5.out).mono ?_); (case side1 => repeat (first | exact HR1207_0.out | (with_reducible refine Kd.C_alloc ?_ _) | (with_reducible refine Kd.C_drewN ?_ _) | (with_reducible refine Kd.C_drew ?_))); (case side2 => exact HC1207_0.out); rintro e w' ⟨rfl, ⟨nd, rfl⟩⟩; refine ⟨_, rfl, ?_⟩))
   go_roundg k1
   case measure => have := HK1.out; omega
   case rel => exact ⟨(t1208), (wrap64 (x5_1 + 1)), zr, zr, H', ⟨by have := HK1.out; omega⟩, by repeat (first | exact Drawn0.refl _ | apply Drawn0.step)⟩
end Go.Proofs.Ytfdfdifjkaaeoaa.F
end
section
namespace Go.Proofs.Ytfdfdifjkaaeoaa.F
open Go.RowKit Go.Proofs.YtfdfdifjkaaeoaaW.PrintWords Go.Proofs.YtfdfdifjkaaeoaaW.PrintLast Go.Proofs.YtfdfdifjkaaeoaaW.PrintMore
attribute [local go_sem] max2_int min2_int max_two min_two max_three min_three max_four min_four
set_option linter.unusedVariables false
set_option linter.unusedSimpArgs false
mutual
def laws_FnExactFormsOfPiece.j0 : Nat → List (List (S59)) → Int → List (List (S59)) → Int → Bool → List (S72) → Int → Bool → List (S59) → Int → Bool → Option (Bool)
 | 0, _, _, _, _, _, _, _, _, _, _, _ => none
 | k + 1, x4, x5, x7, x8, x40, x1210000, x1210001, x1210002, x1226000, x1226001, x1226002 => if x40 = true then (some false) else ((laws_toPiece.f k x1210000 x1210001 x1210002).bind fun bt1231 => ((laws_eqPiece.f k x1226000 x1226001 x1226002 bt1231.1 bt1231.2.1 bt1231.2.2).bind fun t1236 => (if t1236 = true then ((laws_markPiece.f k x1226000 x1226001 x1226002 1).bind fun bt1237 => (if bt1237.1 < 0 then (laws_FnExactFormsOfPiece.j1 k x4 x5 x7 true x1210000 x1210001 x1210002) else ((laws_eqCellSS.f k x7 x4).bind fun t1239 => (if t1239 = true then (laws_FnExactFormsOfPiece.j1 k x4 x5 x7 (x8 != x5) x1210000 x1210001 x1210002) else (laws_FnExactFormsOfPiece.j1 k x4 x5 x7 true x1210000 x1210001 x1210002))))) else (some false))))
def laws_FnExactFormsOfPiece.j1 : Nat → List (List (S59)) → Int → List (List (S59)) → Bool → List (S72) → Int → Bool → Option (Bool)
 | 0, _, _, _, _, _, _, _ => none
 | k + 1, x4, x5, x7, x61, x1210000, x1210001, x1210002 => if x61 = true then (some false) else ((laws_markCellSS.f k x7 1).bind fun bt1240 => ((laws_heldCellSS.f k bt1240.2 1).bind fun t1242 => (if t1242 < 0 then (some false) else (if t1242 = bt1240.1 then ((laws_toPiece.f k x1210000 x1210001 x1210002).bind fun bt1243 => ((impl_FormsOfPiece.f k bt1243.1 bt1243.2.1 bt1243.2.2).bind fun bt1248 => ((laws_eqCellSS.f k bt1248.1 x4).bind fun t1252 => (if t1252 = true then (laws_FnExactFormsOfPiece.j2 k bt1240.2 bt1240.1 (bt1248.2 != x5)) else (laws_FnExactFormsOfPiece.j2 k bt1240.2 bt1240.1 true))))) else (some false)))))
def laws_FnExactFormsOfPiece.j2 : Nat → List (List (S59)) → Int → Bool → Option (Bool)
 | 0, _, _, _ => none
 | k + 1, x7, x10, x87 => if x87 = true then (some false) else ((laws_heldCellSS.f k x7 1).bind fun t1253 => (if t1253 < 0 then (some false) else (if t1253 = x10 then (some true) else (some false))))
end
def laws_FnExactFormsOfPiece.f (k : Nat) (l0_0 : List (S72)) (a0_1 : Int) (a0_2 : Bool) : Option (Bool) := (laws_szPiece.f l0_0 a0_1 a0_2 1048576).bind fun t1210 => (if t1210 < 0 then (some true) else ((laws_toPiece.f k l0_0 a0_1 a0_2).bind fun bt1211 => ((spec_FormsOfPiece.f k bt1211.1 bt1211.2.1 bt1211.2.2).bind fun bt1216 => ((laws_toPiece.f k l0_0 a0_1 a0_2).bind fun bt1220 => ((impl_FormsOfPiece.f k bt1220.1 bt1220.2.1 bt1220.2.2).bind fun bt1226 => ((laws_eqCellSS.f k bt1226.1 bt1216.1).bind fun t1230 => (if t1230 = true then (laws_FnExactFormsOfPiece.j0 k bt1216.1 bt1216.2 bt1226.1 bt1226.2 (bt1226.2 != bt1216.2) l0_0 a0_1 a0_2 bt1220.1 bt1220.2.1 bt1220.2.2) else (laws_FnExactFormsOfPiece.j0 k bt1216.1 bt1216.2 bt1226.1 bt1226.2 true l0_0 a0_1 a0_2 bt1220.1 bt1220.2.1 bt1220.2.2))))))))
end Go.Proofs.Ytfdfdifjkaaeoaa.F
end
