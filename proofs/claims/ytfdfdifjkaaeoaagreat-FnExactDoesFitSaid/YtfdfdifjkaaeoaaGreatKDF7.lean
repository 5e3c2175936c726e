/- The row of FnExactDoesFit, with what it needs: text 8 of 12. -/
import Derived.Test.YtfdfdifjkaaeoaaGreatKDF6
set_option maxHeartbeats 8000000
set_option maxRecDepth 100000
section
namespace Go.Proofs.YtfdfdifjkaaeoaaGreat.F
open Go.RowKit Go.Proofs.YtfdfdifjkaaeoaaGreatW.PrintWords Go.Proofs.YtfdfdifjkaaeoaaGreatW.PrintLast Go.Proofs.YtfdfdifjkaaeoaaGreatW.PrintMore
attribute [local go_sem] max2_int min2_int max_two min_two max_three min_three max_four min_four
set_option linter.unusedVariables false
set_option linter.unusedSimpArgs false
attribute [local go_sem high] eqA58
open Go.Sort
theorem cmpV_zero {x y : S58} (h : cmpV x y = 0) : x = y := antiV x y ((lt_iff x y).2 (by omega)) ((lt_iff y x).2 (by rw [cmpV_anti]; omega))
theorem cmpV_trans {x y z : S58} (h1 : cmpV x y ≤ 0) (h2 : cmpV y z ≤ 0) : cmpV x z ≤ 0 := by
  have h := (lt_iff z x).1 (swoV.ntrans z y x ((lt_iff z y).2 (by rw [cmpV_anti]; omega)) ((lt_iff y x).2 (by rw [cmpV_anti]; omega)))
  rw [cmpV_anti] at h
  omega
theorem ordL_self : ∀ a : List S58, ordL a a = 0
  | [] => rfl
  | a :: r => by unfold ordL; rw [cmpV_self, if_pos rfl, ordL_self r]
theorem ordL_anti : ∀ a b : List S58, a.length = b.length → ordL b a = -ordL a b
  | [], [], _ => rfl
  | [], b :: s, h => by simp at h
  | a :: r, [], h => by simp at h
  | a :: r, b :: s, h => by
    unfold ordL
    have ih := ordL_anti r s (by simpa using h)
    have hc := cmpV_anti a b
    by_cases e : cmpV a b = 0
    · rw [if_pos e, if_pos (by omega)]; exact ih
    · rw [if_neg e, if_neg (by omega)]; exact hc
theorem ordL_zero : ∀ a b : List S58, a.length = b.length → ordL a b = 0 → a = b
  | [], [], _, _ => rfl
  | [], b :: s, h, _ => by simp at h
  | a :: r, [], h, _ => by simp at h
  | a :: r, b :: s, h, h0 => by
    unfold ordL at h0
    by_cases e : cmpV a b = 0
    · rw [if_pos e] at h0
      rw [cmpV_zero e, ordL_zero r s (by simpa using h) h0]
    · rw [if_neg e] at h0
      exact absurd h0 e
theorem ordL_trans : ∀ a b c : List S58, a.length = b.length → b.length = c.length → ordL a b ≤ 0 → ordL b c ≤ 0 → ordL a c ≤ 0
  | [], _, _, _, _, _, _ => by unfold ordL; omega
  | a :: r, [], _, h, _, _, _ => by simp at h
  | a :: r, b :: s, [], _, h, _, _ => by simp at h
  | a :: r, b :: s, c :: t, h1, h2, h3, h4 => by
    unfold ordL at h3 h4 ⊢
    have hab := cmpV_anti a b
    have hbc := cmpV_anti b c
    have hac := cmpV_anti a c
    by_cases e1 : cmpV a b = 0
    · obtain rfl := cmpV_zero e1
      rw [if_pos e1] at h3
      by_cases e2 : cmpV a c = 0
      · rw [if_pos e2] at h4 ⊢
        exact ordL_trans r s t (by simpa using h1) (by simpa using h2) h3 h4
      · rw [if_neg e2] at h4 ⊢
        exact h4
    · rw [if_neg e1] at h3
      by_cases e2 : cmpV b c = 0
      · obtain rfl := cmpV_zero e2
        rw [if_neg e1]
        exact h3
      · rw [if_neg e2] at h4
        have h5 := cmpV_trans h3 h4
        by_cases e3 : cmpV a c = 0
        · obtain rfl := cmpV_zero e3
          omega
        · rw [if_neg e3]
          exact h5
theorem ordS_self (a : List S58) : ordS a a = 0 := by unfold ordS; rw [if_pos rfl, ordL_self]
theorem ordS_anti (a b : List S58) : ordS b a = -ordS a b := by
  unfold ordS
  by_cases e : a.length = b.length
  · rw [if_pos e, if_pos e.symm, ordL_anti a b e]
  · rw [if_neg e, if_neg (fun x => e x.symm)]
    repeat' split
    all_goals omega
theorem ordS_zero {a b : List S58} (h : ordS a b = 0) : a = b := by
  unfold ordS at h
  by_cases e : a.length = b.length
  · rw [if_pos e] at h; exact ordL_zero a b e h
  · rw [if_neg e] at h
    split at h <;> omega
theorem ordS_trans {a b c : List S58} (h1 : ordS a b ≤ 0) (h2 : ordS b c ≤ 0) : ordS a c ≤ 0 := by
  unfold ordS at h1 h2 ⊢
  by_cases e1 : a.length = b.length
  · rw [if_pos e1] at h1
    by_cases e2 : b.length = c.length
    · rw [if_pos e2] at h2
      rw [if_pos (e1.trans e2)]
      exact ordL_trans a b c e1 e2 h1 h2
    · rw [if_neg e2] at h2
      rw [if_neg (by omega)]
      split at h2 <;> split <;> omega
  · rw [if_neg e1] at h1
    by_cases e2 : b.length = c.length
    · rw [if_neg (by omega)]
      split at h1 <;> split <;> omega
    · rw [if_neg e2] at h2
      split at h1
      · split at h2
        · rw [if_neg (by omega), if_pos (by omega)]; omega
        · omega
      · omega
theorem ltS_iff (x y : List S58) : ltOf ordS x y = false ↔ 0 ≤ ordS x y := by
  unfold ltOf
  rw [decide_eq_false_iff_not]
  omega
theorem swoS : SWO (ltOf ordS) where
  irrefl x := by rw [ltS_iff, ordS_self]; omega
  trans x y z h1 h2 := by
    unfold ltOf at *
    rw [decide_eq_true_eq] at *
    have h3 := ordS_trans (a := x) (b := y) (c := z) (by omega) (by omega)
    by_cases e : ordS x z = 0
    · have := ordS_zero e
      subst this
      have := ordS_anti x y
      omega
    · omega
  ntrans x y z h1 h2 := by
    rw [ltS_iff] at *
    have h3 := ordS_trans (a := z) (b := y) (c := x) (by rw [ordS_anti]; omega) (by rw [ordS_anti]; omega)
    rw [ordS_anti] at h3
    omega
theorem antiS (x y : List S58) (h1 : ltOf ordS x y = false) (h2 : ltOf ordS y x = false) : x = y := by
  rw [ltS_iff] at *
  rw [ordS_anti] at h2
  exact ordS_zero (by omega)
def sortS (l : List (List S58)) : List (List S58) := l.mergeSort fun x y => !ltOf ordS y x
structure El (W0 : World) (ok : Nat → Prop) where
  v : Value
  l : List S58
  j : Nat
  has : Kd.FK (Kd.slice 58 k58) W0 ok l [v]
theorem FK_nil0 (W0 : World) (ok : Nat → Prop) : Kd.FK (Kd.slice 58 k58) W0 ok [] [.slice none 0 0] := fun W' _ => ⟨none, 0, rfl, Nat.le_refl _, Kd.C_nil _ _⟩
instance instEl (W0 : World) (ok : Nat → Prop) : Inhabited (El W0 ok) := ⟨⟨.slice none 0 0, [], 0, FK_nil0 _ _⟩⟩
section
variable {W0 w W : World} {ok : Nat → Prop} {base g cap n m : Nat} {os : Array Obj}
theorem El.one (x : El W0 ok) : x.v.oneCell' = true := (Kd.slice 58 k58).K_one (Kd.FK_now x.has) x.v (by simp)
def Same (W0 w : World) (ok : Nat → Prop) : Prop := ∀ k, ok k → k < W0.heap.size → w.heap[k]? = W0.heap[k]?
theorem Same.refl (w : World) (ok : Nat → Prop) : Same w w ok := fun _ _ _ => rfl
theorem Same.grown (h : Same W0 w ok) (hg : w.grownBy W (some g)) (hok : ¬ ok g) : Same W0 W ok := fun k hk hlt =>
  (hg.block k (heap_lt (h k hk hlt) hlt) (fun e => hok (by injection e with e; exact e ▸ hk))).trans (h k hk hlt)
theorem El.now (x : El W0 ok) (h : Same W0 w ok) : ∃ A c, x.v = .slice A x.l.length c ∧ x.l.length ≤ c ∧ Kd.C k58 w A x.l.length x.l := by
  obtain ⟨A, c, e, h1, h2⟩ := Kd.FK_now (Kd.FK_step x.has h)
  exact ⟨A, c, by simpa using e, h1, h2⟩
def cfE (x y : El W0 ok) : Int := ordS x.l y.l
theorem swoE : SWO (ltOf (cfE (W0 := W0) (ok := ok))) where
  irrefl x := swoS.irrefl x.l
  trans x y z := swoS.trans x.l y.l z.l
  ntrans x y z := swoS.ntrans x.l y.l z.l
theorem sortW1_grown {α : Type} [Inhabited α] (enc : α → Value) (w : World) (g n : Nat) (d : Array α) (os : Array Obj) : w.grownBy (sortWorld enc w g 0 n d os) (some g) := by
  refine ⟨rfl, rfl, rfl, ?_, fun k hk hne => ?_⟩
  · show w.heap.size ≤ ((w.heap.modify g _) ++ os).size
    simp
  · show ((w.heap.modify g _) ++ os)[k]? = w.heap[k]?
    rw [Array.getElem?_append_left (by simpa using hk), Array.getElem?_modify, if_neg]
    intro e
    exact hne (by rw [e])
theorem sortW1_heap {α : Type} [Inhabited α] (enc : α → Value) (w : World) (g n : Nat) (d : Array α) (os : Array Obj) {cur : Array Value} {e : TypeId} {fr : Nat × Nat} (h : w.heap[g]? = some (.cells cur e fr)) : (sortWorld enc w g 0 n d os).heap[g]? = some (.cells (Go.Sort.putCells enc 0 d cur) e fr) := by
  have hlt : g < w.heap.size := (Array.getElem?_eq_some_iff.1 h).1
  show ((w.heap.modify g _) ++ os)[g]? = _
  rw [Array.getElem?_append_left (by simpa using hlt), Array.getElem?_modify, if_pos rfl, h]
  rfl
theorem putCells1_take {α : Type} [Inhabited α] (enc : α → Value) (d : Array α) (cur : Array Value) (h : d.size ≤ cur.size) : (Go.Sort.putCells enc 0 d cur).toList.take d.size = d.toList.map enc := by
  apply List.ext_getElem?
  intro i
  by_cases hi : i < d.size
  · rw [List.getElem?_take_of_lt hi]
    simp only [Go.Sort.putCells, Array.getElem?_toList, Array.getElem?_mapIdx, List.getElem?_map]
    rw [Array.getElem?_eq_getElem (show i < cur.size by omega), Array.getElem?_eq_getElem hi, Option.map_some, Option.map_some, if_pos (by omega)]
    simp [getElem!_pos d i hi]
  · rw [List.getElem?_eq_none (by simp; omega), List.getElem?_eq_none (by simp; omega)]
structure At (w : World) (base g cap : Nat) (d : Array (El W0 ok)) : Prop where
  base : base ≤ g
  max : cap ≤ maxLen
  size : d.size ≤ cap
  cells : ∃ cur, w.heap[g]? = some (.cells cur 28 (0, 0)) ∧ cur.size = cap ∧ cur.toList.take d.size = d.toList.map El.v
theorem At.lt {d : Array (El W0 ok)} (h : At w base g cap d) : g < w.heap.size := by
  obtain ⟨cur, h1, _⟩ := h.cells
  exact (Array.getElem?_eq_some_iff.1 h1).1
theorem At.holds {d : Array (El W0 ok)} (h : At w base g cap d) : Holds El.v w g 0 d := by
  obtain ⟨cur, h1, h2, h3⟩ := h.cells
  intro t ht
  refine ⟨?_, by rw [Nat.zero_add]; exact blk_frozen h1 t⟩
  rw [Nat.zero_add, blk_cell h1 t]
  have e1 : cur[t]? = (d.toList.map El.v)[t]? := by
    rw [← h3, List.getElem?_take_of_lt ht, Array.getElem?_toList]
  rw [e1, List.getElem?_map, Array.getElem?_toList, Array.getElem?_eq_getElem ht, getElem!_pos d t ht]
  rfl
theorem At.sorted {d d' : Array (El W0 ok)} (h : At w base g cap d) (hs : d'.size = d.size) : At (sortWorld El.v w g 0 n d' os) base g cap d' := by
  obtain ⟨cur, h1, h2, h3⟩ := h.cells
  refine ⟨h.base, h.max, hs ▸ h.size, _, sortW1_heap El.v w g n d' os h1, by simpa [Go.Sort.putCells] using h2, putCells1_take El.v d' cur ?_⟩
  have := h.size
  omega
theorem At.cut {d : Array (El W0 ok)} (h : At w base g cap d) (q : Nat) (hq : q ≤ d.size) : At w base g cap (d.toList.take q).toArray := by
  obtain ⟨cur, h1, h2, h3⟩ := h.cells
  have hs := h.size
  refine ⟨h.base, h.max, by simp; omega, cur, h1, h2, ?_⟩
  have e : (d.toList.take q).toArray.size = q := by simp; omega
  rw [e]
  show _ = (d.toList.take q).map El.v
  rw [List.map_take, ← h3, List.take_take, Nat.min_eq_left hq]
theorem At.raw {d : Array (El W0 ok)} (h : At w base g cap d) : (Kd.raw 1).R 28 w base (fun k => some k = (Value.slice (some ⟨g, 0, none⟩) d.size cap).ownBlock) (.slice (some ⟨g, 0, none⟩) d.size cap) (d.toList.map fun x => [x.v]) := by
  obtain ⟨cur, h1, h2, h3⟩ := h.cells
  have hl : (d.toList.map fun x : El W0 ok => [x.v]).length = d.size := by simp
  refine ⟨fun k hk => hk.symm, d.toList.map El.v, ⟨by rw [hl]; simp [Kd.raw], .inr ⟨g, cap, cur, by rw [hl], h.base, h1, by rw [hl]; exact h.size, h.max, by simpa [Kd.raw] using h2, by rw [hl]; simpa [Kd.raw] using h3⟩⟩, by rw [hl]; simp [Kd.raw], ?_⟩
  intro j p hp
  rw [List.getElem?_map, Option.map_eq_some_iff] at hp
  obtain ⟨x, hx, rfl⟩ := hp
  have hj : j < (d.toList.map El.v).length := by
    have := (List.getElem?_eq_some_iff.1 hx).1
    simpa using this
  have e : ((d.toList.map El.v).drop (j * (Kd.raw 1).sz)).take (Kd.raw 1).sz = [x.v] := by
    show ((d.toList.map El.v).drop (j * 1)).take 1 = _
    rw [Nat.mul_one, List.drop_eq_getElem_cons hj]
    have : (d.toList.map El.v)[j]? = some x.v := by rw [List.getElem?_map, hx]; rfl
    rw [List.getElem?_eq_getElem hj] at this
    simp [Option.some.inj this]
  rw [e]
  exact ⟨rfl, rfl, fun u hu => by rw [List.mem_singleton.1 hu]; exact x.one⟩
end
section
variable {w W : World} {ok : Nat → Prop} {base g cap n : Nat} {xs : List (List S58)}
abbrev inn (ok : Nat → Prop) (g : Nat) : Nat → Prop := fun k => ok k ∧ k ≠ g
theorem inn_of {k : Nat} {c : Nat} (h : ok k ∧ some k ≠ (Value.slice (some ⟨g, 0, none⟩) n c).ownBlock) : inn ok g k := ⟨h.1, fun e => h.2 (by rw [e]; rfl)⟩
theorem inn_to {k : Nat} {c : Nat} (h : inn ok g k) : ok k ∧ some k ≠ (Value.slice (some ⟨g, 0, none⟩) n c).ownBlock := ⟨h.1, fun e => h.2 (by injection e)⟩
end
section
variable {w W : World} {ok : Nat → Prop} {base g cap n : Nat} {xs : List (List S58)}
theorem S_open (h : Kd.S (Kd.slice 58 k58) 28 w base ok (.slice (some ⟨g, 0, none⟩) n cap) xs) : ok g ∧ n = xs.length ∧ ∃ f : Nat → Nat, ∃ d : Array (El w (inn ok g)), d.toList.map El.l = xs ∧ At w base g cap d ∧ d.toList.map El.j = List.range d.size ∧ ∀ x ∈ d.toList, (Kd.slice 58 k58).M w base (fun k => inn ok g k ∧ f k = x.j) x.l [x.v] := by
  obtain ⟨f, h1, inner, ⟨h2, h3⟩, h4, h5⟩ := h
  rcases h3 with ⟨h3, _⟩ | ⟨g', cap', cur, h3, h6, h7, h8, h9, h10, h11⟩
  · cases h3
  injection h3 with h3 h13 h12
  injection h3 with h3
  injection h3 with h3
  subst h3 h12
  have hs1 : (Kd.tag f (Kd.slice 58 k58)).sz = 1 := rfl
  rw [hs1, Nat.mul_one] at h2 h4
  rw [hs1, Nat.mul_one] at h11
  rw [hs1, Nat.mul_one] at h10
  rw [List.length_zipIdx] at h13 h2 h4 h8 h11
  have hel : ∀ j : Fin xs.length, (Kd.slice 58 k58).M w base (fun k => inn ok g k ∧ f k = j.1) xs[j.1] [inner[j.1]'(by omega)] := fun j => by
    have h := h5 j.1 (xs[j.1], j.1) (Kd.zip_at (List.getElem?_eq_getElem j.2))
    have e : (inner.drop (j.1 * (Kd.tag f (Kd.slice 58 k58)).sz)).take (Kd.tag f (Kd.slice 58 k58)).sz = [inner[j.1]'(by omega)] := by
      rw [hs1, Nat.mul_one, List.drop_eq_getElem_cons (by omega)]
      rfl
    rw [e] at h
    exact Kd.M_mono _ (fun k hk => ⟨inn_of hk.1, hk.2⟩) h
  refine ⟨h1 g rfl, h13, f, Array.ofFn fun j : Fin xs.length => El.mk (inner[j.1]'(by omega)) xs[j.1] j.1 (Kd.FK_mono (Kd.FK_of_M (hel j)) (fun _ hk => hk.1)), ?_, ⟨h6, h9, by rw [Array.size_ofFn]; exact h8, cur, h7, h10, ?_⟩, ?_, ?_⟩
  · apply List.ext_getElem
    · simp
    · intro i hi hi2
      simp
  · rw [Array.size_ofFn, h11]
    apply List.ext_getElem
    · simp; omega
    · intro i hi hi2
      simp
  · apply List.ext_getElem
    · simp
    · intro i hi hi2
      simp
  · intro x hx
    obtain ⟨i, hi, rfl⟩ := List.getElem_of_mem hx
    have hi' : i < xs.length := by simpa using hi
    have := hel ⟨i, hi'⟩
    simpa using this
theorem S_close {d0 : World} {f : Nat → Nat} {d : Array (El d0 (inn ok g))} (hok : ok g) (h : At w base g cap d) (hs : Same d0 w (inn ok g)) (hn : (d.toList.map El.j).Nodup) (hM : ∀ x ∈ d.toList, (Kd.slice 58 k58).M d0 base (fun k => inn ok g k ∧ f k = x.j) x.l [x.v]) :
    Kd.S (Kd.slice 58 k58) 28 w base ok (.slice (some ⟨g, 0, none⟩) d.size cap) (d.toList.map El.l) := by
  obtain ⟨cur, h1, h2, h3⟩ := h.cells
  have hl : (d.toList.map El.l).zipIdx.length = d.size := by simp
  refine ⟨fun k => (d.toList.map El.j).idxOf (f k), fun k hk => ?_, d.toList.map El.v, ⟨by rw [hl]; simp [Kd.tag, Kd.slice], .inr ⟨g, cap, cur, by rw [hl], h.base, h1, by rw [hl]; exact h.size, h.max, by simpa [Kd.tag, Kd.slice] using h2, by rw [hl]; simpa [Kd.tag, Kd.slice] using h3⟩⟩, by rw [hl]; simp [Kd.tag, Kd.slice], ?_⟩
  · simp [Value.ownBlock] at hk
    exact hk ▸ hok
  · intro j p hp
    rw [List.getElem?_zipIdx, Nat.zero_add, Option.map_eq_some_iff] at hp
    obtain ⟨l, hx, rfl⟩ := hp
    rw [List.getElem?_map, Option.map_eq_some_iff] at hx
    obtain ⟨x, hx, rfl⟩ := hx
    have hj : j < (d.toList.map El.v).length := by
      have := (List.getElem?_eq_some_iff.1 hx).1
      simpa using this
    have e : ((d.toList.map El.v).drop (j * 1)).take 1 = [x.v] := by
      rw [Nat.mul_one, List.drop_eq_getElem_cons hj]
      have : (d.toList.map El.v)[j]? = some x.v := by rw [List.getElem?_map, hx]; rfl
      rw [List.getElem?_eq_getElem hj] at this
      simp [Option.some.inj this]
    show (Kd.slice 58 k58).M w base _ x.l (((d.toList.map El.v).drop (j * 1)).take 1)
    rw [e]
    have hm := hM x (List.mem_of_getElem? hx)
    refine Kd.M_mono _ (fun k hk => ⟨inn_to hk.1, ?_⟩) (Kd.M_step hm (fun k hk hlt => hs k hk.1 hlt))
    have hj' : j < (d.toList.map El.j).length := by simpa using hj
    have ex : (d.toList.map El.j)[j] = x.j := by
      have : (d.toList.map El.j)[j]? = some x.j := by rw [List.getElem?_map, hx]; rfl
      rw [List.getElem?_eq_getElem hj'] at this
      exact Option.some.inj this
    show List.idxOf (f k) (d.toList.map El.j) = j
    rw [hk.2, ← ex]
    exact hn.idxOf_getElem j hj'
end
theorem compareF_rounds (a b : List S58) (hl : a.length = b.length) (hs : a.length ≤ 9223372036854775807) : ∀ (suf pre : List S58), a = pre ++ suf → ∀ k, suf.length < k → impl_Cell_80__impl_compareCells.l0 k a b a (a.length : Int) (pre.length : Int) = some (ordL suf (b.drop pre.length)) := by
  intro suf
  induction suf with
  | nil =>
    intro pre hx k hk
    obtain ⟨k, rfl⟩ : ∃ m, k = m + 1 := ⟨k - 1, by omega⟩
    rw [List.append_nil] at hx
    subst hx
    simp only [impl_Cell_80__impl_compareCells.l0]
    rw [if_neg (by omega), if_neg (by omega)]
    rfl
  | cons c suf ih =>
    intro pre hx k hk
    obtain ⟨k, rfl⟩ : ∃ m, k = m + 1 := ⟨k - 1, by omega⟩
    have hla : a.length = pre.length + (suf.length + 1) := by rw [hx]; simp
    have hpb : pre.length < b.length := by omega
    have ea : rd_T58 a (pre.length : Int) = c := by
      unfold rd_T58
      rw [hx]
      simp [List.getD]
    have eb : rd_T58 b (pre.length : Int) = b[pre.length] := by
      unfold rd_T58
      rw [List.getD_eq_getElem?_getD, Int.toNat_natCast, List.getElem?_eq_getElem hpb]
      rfl
    have ew : wrap64 ((pre.length : Int) + 1) = ((pre ++ [c]).length : Int) := by
      rw [List.length_append, List.length_singleton]
      simp only [wrap64]
      omega
    have hi := ih (pre ++ [c]) (by rw [hx]; simp) k (by simp at hk; omega)
    simp only [impl_Cell_80__impl_compareCells.l0]
    rw [if_pos (by omega), if_pos (by omega), if_pos (by omega), if_neg (by omega), if_pos (by omega), ea, eb, cmpV_eq, Option.bind_some, ew, hi, List.drop_eq_getElem_cons hpb, ordL, List.length_append, List.length_singleton]
    split <;> rfl
theorem compare_rounds (a b : List S58) (hs : a.length ≤ 9223372036854775807) : ∃ k, impl_compareShapes.f k a b = some (ordS a b) := by
  refine ⟨a.length + 1, ?_⟩
  unfold impl_compareShapes.f ordS
  by_cases hl : a.length = b.length
  · rw [if_pos hl, if_pos (by omega)]
    have := compareF_rounds a b hl hs a [] rfl (a.length + 1) (by omega)
    unfold impl_Cell_80__impl_compareCells.f
    simp only [List.length_nil, Int.natCast_zero, List.drop_zero] at this
    rw [this]
    rfl
  · rw [if_neg hl, if_neg (by omega)]
    split
    · rw [if_pos (by omega)]
    · rw [if_neg (by omega)]
set_option maxHeartbeats 4000000 in
theorem impl_Cell_69__impl_compareShapes.raw {W0 w : World} {ok : Nat → Prop} {base g cap : Nat} (d : Array (El W0 ok)) (hA : At w base g cap d) (hS : Same W0 w ok) (hg : ¬ ok g) (hsz : d.size < 4611686018427387904) :
    Calls Tryz.prog 69 #[.slice (some ⟨g, 0, none⟩) d.size cap, .func (.func 70) #[] #[]] w fun e w' => e = .returned (.tuple #[]) ∧ ∃ (d' : Array (El W0 ok)) (n : Nat) (os : Array Obj), d'.toList.Perm d.toList ∧ d'.toList.map El.l = sortS (d.toList.map El.l) ∧ w' = sortWorld El.v w g 0 n d' os := by
  have eg : ∀ args w, (callFunc 70 args).run Tryz.prog w = .ok (.enter 70 args) w := enters_of Tryz.func70 (by kernel_rfl) rfl
  have hcmp : CmpLays1 Tryz.prog 70 #[] El.v cfE g 0 d.size w := fun m os dk hdk x y => by
    have hgw := sortW1_grown El.v w g m dk os
    obtain ⟨A0, c0, e0, hc0, hC0⟩ := x.now (hS.grown hgw hg)
    obtain ⟨A1, c1, e1, hc1, hC1⟩ := y.now (hS.grown hgw hg)
    obtain ⟨k, hk⟩ := compare_rounds x.l y.l hC0.2.1
    rw [e0, e1]
    exact (impl_compareShapes.callsG k A0 c0 x.l A1 c1 y.l (ordS x.l y.l) _ hC0 hc0 hC1 hc1 hk).mono fun _ _ hh => ⟨hh.1, hh.2.gr⟩
  have hcon := Any.slices_SortFunc sortS_lays El.v El.one cfE swoE 70 #[] g 0 cap d w eg hcmp hA.holds hA.lt hsz
  refine (show Calls Tryz.prog 69 #[.slice (some ⟨g, 0, none⟩) d.size cap, .func (.func 70) #[] #[]] w _ from hcon).mono ?_
  rintro e w' ⟨rfl, d', n, os, hp, hs', rfl⟩
  have hP : d'.toList.Perm d.toList := by
    have := hp.2.2
    have e1 : d'.extract 0 d.size = d' := by rw [← hp.1]; exact Array.extract_size
    have e2 : d.extract 0 d.size = d := Array.extract_size
    rwa [e1, e2] at this
  refine ⟨rfl, d', n, os, hP, ?_, rfl⟩
  refine List.Perm.eq_of_pairwise (le := fun x y => (!ltOf ordS y x) = true) ?_ ?_ ?_ ((hP.map El.l).trans (List.mergeSort_perm _ _).symm)
  · intro a b _ _ h1 h2
    simp only [Bool.not_eq_true'] at h1 h2
    exact antiS a b h2 h1
  · rw [List.pairwise_map, List.pairwise_iff_getElem]
    intro i j hi hj hij
    have hi' : i < d'.size := by simpa using hi
    have hj' : j < d'.size := by simpa using hj
    have := hs' i j (Nat.zero_le _) hij (by rw [← hp.1]; exact hj')
    rw [getElem!_pos d' i hi', getElem!_pos d' j hj'] at this
    simp only [Bool.not_eq_true', Array.getElem_toList]
    exact this
  · have := List.pairwise_mergeSort (le := fun x y : List S58 => !ltOf ordS y x) (fun a b c h1 h2 => by
      simp only [Bool.not_eq_true'] at *
      exact swoS.ntrans c b a h2 h1) (fun a b => by
      rw [Bool.or_eq_true]
      by_cases e : ltOf ordS b a = true
      · right
        simp only [Bool.not_eq_true']
        rw [ltS_iff]
        unfold ltOf at e
        rw [decide_eq_true_eq] at e
        rw [ordS_anti]
        omega
      · left
        simpa using e) (d.toList.map El.l)
    exact this
def impl_Cell_49.l0 : Nat → List (S58) → List (S58) → Int → Int → Option (Bool)
 | 0, _, _, _, _ => none
 | k + 1, x0, x1, x12, x13 => if x13 < x12 then (if 0 ≤ x13 then (if x13 < (x0.length : Int) then (if x13 < (x1.length : Int) then (if (!(((rd_T58 x0 x13).f0) == ((rd_T58 x1 x13).f0)) || (!(((rd_T58 x0 x13).f1) == ((rd_T58 x1 x13).f1)))) = true then (some false) else (impl_Cell_49.l0 k x0 x1 x12 (wrap64 (x13 + 1)))) else (none)) else (none)) else (none)) else (some true)
def impl_Cell_49.f (k : Nat) (l0 : List (S58)) (l1 : List (S58)) : Option (Bool) := if (l0.length : Int) = (l1.length : Int) then (impl_Cell_49.l0 k l0 l1 (l0.length : Int) 0) else (some false)
theorem impl_Cell_49.calls (k : Nat) (A0 : Option Addr) (c0 : Nat) (l0 : List (S58)) (A1 : Option Addr) (c1 : Nat) (l1 : List (S58)) (r : Bool) (w : World) (hr0 : Kd.C k58 w A0 l0.length l0) (hc0 : l0.length ≤ c0) (hr1 : Kd.C k58 w A1 l1.length l1) (hc1 : l1.length ≤ c1) (h : impl_Cell_49.f k l0 l1 = some r) :
  Calls Tryz.prog 49 #[.slice A0 l0.length c0, .slice A1 l1.length c1] w fun e w' => e = .returned (.bool r) ∧ Drawn0 w w' := by
 have hu58 := Tryz.underlying58
 have HR0 := aM hr0
 have HC0 := aM hc0
 clear hr0 hc0
 have HR1 := aM hr1
 have HC1 := aM hc1
 clear hr1 hc1
 have H : (if (l0.length : Int) = (l1.length : Int) then (impl_Cell_49.l0 k l0 l1 (l0.length : Int) 0) else (some false)) = some r := h
 clear h
 by_cases c3 : (l0.length : Int) = (l1.length : Int)
 rotate_left
 ·rw [if_neg c3] at H
  have c3b0 : ((l0.length : Int) == (l1.length : Int)) = false := beq_eq_false_iff_ne.mpr c3
  have c3b1 : ((l0.length : Int) != (l1.length : Int)) = true := bne_iff_ne.mpr c3
  have c3b2 : (l0.length == l1.length) = false := by first | simpa using c3 | (simp at c3 ⊢; omega)
  obtain rfl := Option.some.inj H
  go_enter Tryz.func49, Tryz.ntmps49
  go_wp2
  repeat (go_quiet (fail); try go_wp2)
  go_ret
  exact ⟨by first | rfl | (simp; done) | (simp [*]; done), by repeat (first | exact Drawn0.refl _ | apply Drawn0.step)⟩
 rw [if_pos c3] at H
 have c3b0 : ((l0.length : Int) == (l1.length : Int)) = true := beq_iff_eq.mpr c3
 have c3b1 : ((l0.length : Int) != (l1.length : Int)) = false := bne_eq_false_iff_eq.mpr c3
 have c3b2 : (l0.length == l1.length) = true := by first | simpa using c3 | (simp at c3 ⊢; omega)
 clear c3
 have H' := aM H
 clear H
 go_enter Tryz.func49, Tryz.ntmps49
 go_wp2
 repeat (go_quiet (fail); try go_wp2)
 go_loopg [13] k (fun kq v13 w' => ∃ (x13_1 : Int), v13 = .int .i64 x13_1 ∧ Aside0 (impl_Cell_49.l0 kq l0 l1 (l0.length : Int) x13_1 = some r) ∧ Aside0 (kq ≤ k) ∧ Drawn0 w w')
 case atStart => exact ⟨(0), zr, H', ⟨Nat.le_refl _⟩, by repeat (first | exact Drawn0.refl _ | apply Drawn0.step)⟩
 case round =>
  clear H'
  try clear c1
  try clear p2
  try clear c3
  try clear c3b0
  try clear c3b1
  try clear c3b2
  obtain ⟨x13_1, rfl, HA, HK1, ⟨m1, rfl⟩⟩ := hrel
  cases gk with
  | zero => exact absurd HA.out (by simp [impl_Cell_49.l0])
  | succ k1 =>
   have H := HA.out
   clear HA
   simp only [impl_Cell_49.l0] at H
   by_cases c4 : x13_1 < (l0.length : Int)
   rotate_left
   ·rw [if_neg c4] at H
    have c4b0 : decide (x13_1 < (l0.length : Int)) = false := decide_eq_false c4
    clear c4
    obtain rfl := Option.some.inj H
    go_wp2
    repeat (go_quiet (fail); try go_wp2)
    go_ret
    exact ⟨by first | rfl | (simp; done) | (simp [*]; done), by repeat (first | exact Drawn0.refl _ | apply Drawn0.step)⟩
   rw [if_pos c4] at H
   have c4b0 : decide (x13_1 < (l0.length : Int)) = true := decide_eq_true c4
   clear c4
   by_cases c5 : 0 ≤ x13_1
   rotate_left
   ·rw [if_neg c5] at H
    exact absurd H (by simp)
   rw [if_pos c5] at H
   have c5b0 : decide (0 ≤ x13_1) = true := decide_eq_true c5
   clear c5
   by_cases c6 : x13_1 < (l0.length : Int)
   rotate_left
   ·rw [if_neg c6] at H
    exact absurd H (by simp)
   rw [if_pos c6] at H
   have c6b0 : decide (x13_1 < (l0.length : Int)) = true := decide_eq_true c6
   clear c6
   by_cases c7 : x13_1 < (l1.length : Int)
   rotate_left
   ·rw [if_neg c7] at H
    exact absurd H (by simp)
   rw [if_pos c7] at H
   have c7b0 : decide (x13_1 < (l1.length : Int)) = true := decide_eq_true c7
   clear c7
   by_cases c8 : (!(((rd_T58 l0 x13_1).f0) == ((rd_T58 l1 x13_1).f0)) || (!(((rd_T58 l0 x13_1).f1) == ((rd_T58 l1 x13_1).f1)))) = true
   ·rw [if_pos c8] at H
    have c8b0 : (!(((rd_T58 l0 x13_1).f0) == ((rd_T58 l1 x13_1).f0)) || (!(((rd_T58 l0 x13_1).f1) == ((rd_T58 l1 x13_1).f1)))) = true := c8
    clear c8
    obtain rfl := Option.some.inj H
    have p408 : 0 ≤ (x13_1 : Int) := of_decide_eq_true za
    have q408 : x13_1 < (l0.length : Int) := of_decide_eq_true za
    obtain ⟨ad408, e408, hx408_0, hx408_1⟩ := at_T58 HR0.out x13_1 p408 q408
    cases e408
    replace p408 := eq_true p408
    replace q408 := eq_true q408
    have p409 : 0 ≤ (x13_1 : Int) := of_decide_eq_true za
    have q409 : x13_1 < (l1.length : Int) := of_decide_eq_true za
    obtain ⟨ad409, e409, hx409_0, hx409_1⟩ := at_T58 HR1.out x13_1 p409 q409
    cases e409
    replace p409 := eq_true p409
    replace q409 := eq_true q409
    go_wp2
    repeat (go_quiet (fail); try go_wp2)
    go_ret
    exact ⟨by first | rfl | (simp; done) | (simp [*]; done), by repeat (first | exact Drawn0.refl _ | apply Drawn0.step)⟩
   rw [if_neg c8] at H
   have c8b0 : (!(((rd_T58 l0 x13_1).f0) == ((rd_T58 l1 x13_1).f0)) || (!(((rd_T58 l0 x13_1).f1) == ((rd_T58 l1 x13_1).f1)))) = false := by simpa using c8
   clear c8
   have H' := aM H
   clear H
   have p408 : 0 ≤ (x13_1 : Int) := of_decide_eq_true za
   have q408 : x13_1 < (l0.length : Int) := of_decide_eq_true za
   obtain ⟨ad408, e408, hx408_0, hx408_1⟩ := at_T58 HR0.out x13_1 p408 q408
   cases e408
   replace p408 := eq_true p408
   replace q408 := eq_true q408
   have p409 : 0 ≤ (x13_1 : Int) := of_decide_eq_true za
   have q409 : x13_1 < (l1.length : Int) := of_decide_eq_true za
   obtain ⟨ad409, e409, hx409_0, hx409_1⟩ := at_T58 HR1.out x13_1 p409 q409
   cases e409
   replace p409 := eq_true p409
   replace q409 := eq_true q409
   go_wp2
   repeat (go_quiet (fail); try go_wp2)
   go_roundg k1
   case measure => have := HK1.out; omega
   case rel => exact ⟨(wrap64 (x13_1 + 1)), zr, H', ⟨by have := HK1.out; omega⟩, by repeat (first | exact Drawn0.refl _ | apply Drawn0.step)⟩
def impl_equalShapes.f (k : Nat) (l0 : List (S58)) (l1 : List (S58)) : Option (Bool) := (impl_Cell_49.f k l0 l1).bind fun t410 => (some t410)
theorem impl_equalShapes.calls (k : Nat) (A0 : Option Addr) (c0 : Nat) (l0 : List (S58)) (A1 : Option Addr) (c1 : Nat) (l1 : List (S58)) (r : Bool) (w : World) (hr0 : Kd.C k58 w A0 l0.length l0) (hc0 : l0.length ≤ c0) (hr1 : Kd.C k58 w A1 l1.length l1) (hc1 : l1.length ≤ c1) (h : impl_equalShapes.f k l0 l1 = some r) :
  Calls Tryz.prog 72 #[.slice A0 l0.length c0, .slice A1 l1.length c1] w fun e w' => e = .returned (.bool r) ∧ Drawn0 w w' := by
 have HR0 := aM hr0
 have HC0 := aM hc0
 clear hr0 hc0
 have HR1 := aM hr1
 have HC1 := aM hc1
 clear hr1 hc1
 have H : ((impl_Cell_49.f k l0 l1).bind fun t410 => (some t410)) = some r := h
 clear h
 replace H := Option.bind_eq_some_iff.mp H
 obtain ⟨t410, A30, H⟩ := H
 replace H : (some t410) = some r := H
 have A3 := aM A30
 clear A30
 obtain rfl := Option.some.inj H
 go_enter Tryz.func72, Tryz.ntmps72
 go_wp2_with (first | ((with_reducible refine gate_callee (f := 49) rfl ?_); refine goesL_ (some 7) rfl rfl Tryz.func49 (by kernel_rfl) rfl #[.slice A0 l0.length c0, .slice A1 l1.length c1] rfl zm ?_; (with_reducible refine (impl_Cell_49.calls k _ _ l0 _ _ l1 t410 _ ?side1 ?side2 ?side3 ?side4 A3.out).mono ?_); (case side1 => repeat (first | exact HR0.out | (with_reducible refine Kd.C_alloc ?_ _) | (with_reducible refine Kd.C_drewN ?_ _) | (with_reducible refine Kd.C_drew ?_))); (case side2 => exact HC0.out); (case side3 => repeat (first | exact HR1.out | (with_reducible refine Kd.C_alloc ?_ _) | (with_reducible refine Kd.C_drewN ?_ _) | (with_reducible refine Kd.C_drew ?_))); (case side4 => exact HC1.out); rintro e w' ⟨rfl, ⟨nd, rfl⟩⟩; refine ⟨_, rfl, ?_⟩))
 go_ret
 exact ⟨by first | rfl | (simp; done) | (simp [*]; done), by repeat (first | exact Drawn0.refl _ | apply Drawn0.step)⟩
end Go.Proofs.YtfdfdifjkaaeoaaGreat.F
end
section
namespace Go.Proofs.YtfdfdifjkaaeoaaGreat.F
open Go.RowKit Go.Proofs.YtfdfdifjkaaeoaaGreatW.PrintWords Go.Proofs.YtfdfdifjkaaeoaaGreatW.PrintLast Go.Proofs.YtfdfdifjkaaeoaaGreatW.PrintMore
attribute [local go_sem] max2_int min2_int max_two min_two max_three min_three max_four min_four
set_option linter.unusedVariables false
set_option linter.unusedSimpArgs false
open Go.Sort
def compG {β : Type} [DecidableEq β] (p : β) : List β → List β
  | [] => []
  | b :: r => if b = p then compG b r else b :: compG b r
def compF {β : Type} [DecidableEq β] : List β → List β
  | [] => []
  | a :: r => a :: compG a r
theorem compG_snoc {β : Type} [DecidableEq β] : ∀ (l : List β) (p b : β), compG p (l ++ [b]) = if b = (p :: l).getLast (by simp) then compG p l else compG p l ++ [b]
  | [], p, b => by
    by_cases h : b = p
    · simp [compG, h]
    · simp [compG, h]
  | a :: r, p, b => by
    have ih := compG_snoc r a b
    rw [List.cons_append, compG, compG, ih]
    have e : (p :: a :: r).getLast (by simp) = (a :: r).getLast (by simp) := List.getLast_cons (by simp)
    rw [e]
    by_cases h : a = p
    · rw [if_pos h, if_pos h]
    · rw [if_neg h, if_neg h]
      split
      · rfl
      · rfl
theorem compF_snoc {β : Type} [DecidableEq β] (l : List β) (b : β) (h : l ≠ []) : compF (l ++ [b]) = if b = l.getLast h then compF l else compF l ++ [b] := by
  cases l with
  | nil => exact absurd rfl h
  | cons a r =>
    rw [List.cons_append, compF, compF, compG_snoc]
    split
    · rfl
    · rfl
theorem compG_len {β : Type} [DecidableEq β] : ∀ (l : List β) (p : β), (compG p l).length ≤ l.length
  | [], _ => Nat.le_refl _
  | a :: r, p => by
    rw [compG]
    have := compG_len r a
    split
    · rw [List.length_cons]; omega
    · rw [List.length_cons, List.length_cons]; omega
theorem compF_len {β : Type} [DecidableEq β] (l : List β) : (compF l).length ≤ l.length := by
  cases l with
  | nil => exact Nat.le_refl _
  | cons a r => rw [compF, List.length_cons, List.length_cons]; have := compG_len r a; omega
theorem take_snoc_get {β : Type} (l : List β) (m : Nat) (h : m < l.length) : l.take (m + 1) = l.take m ++ [l[m]] := by
  rw [List.take_succ_eq_append_getElem h]
theorem compF_step {β : Type} [DecidableEq β] (l : List β) (m : Nat) (h : m < l.length) (h0 : 0 < m) : compF (l.take (m + 1)) = if l[m] = l[m - 1]'(by omega) then compF (l.take m) else compF (l.take m) ++ [l[m]] := by
  have hn : l.take m ≠ [] := by
    intro e
    have := congrArg List.length e
    rw [List.length_take, List.length_nil] at this
    omega
  rw [take_snoc_get l m h, compF_snoc _ _ hn]
  have e : (l.take m).getLast hn = l[m - 1]'(by omega) := by
    rw [List.getLast_eq_getElem]
    simp only [List.length_take, List.getElem_take]
    congr 1
    omega
  rw [e]
theorem take_sub {β : Type} (l : List β) {n m : Nat} (h : n ≤ m) : (l.take n).Sublist (l.take m) := by
  have : l.take n = (l.take m).take n := by rw [List.take_take, Nat.min_eq_left h]
  rw [this]
  exact List.take_sublist _ _
structure CompIv {α β : Type} [Inhabited α] [DecidableEq β] (key : α → β) (d : Array α) (m kk : Nat) (dk : Array α) : Prop where
  size : dk.size = d.size
  lt : kk < m
  le : m ≤ d.size
  low : (dk.toList.take kk).map key = compF ((d.toList.map key).take m)
  high : ∀ j, kk ≤ j → dk[j]! = d[j]!
  sub : (dk.toList.take kk).Sublist (d.toList.take m)
section
variable {α β : Type} [Inhabited α] [DecidableEq β] {key : α → β} {d dk : Array α} {m kk : Nat}
def AllKeep (key : α → β) (d : Array α) (m : Nat) : Prop := m ≤ d.size ∧ compF ((d.toList.map key).take m) = (d.toList.map key).take m
omit [Inhabited α] in
theorem AllKeep.one (h : 1 ≤ d.size) : AllKeep key d 1 := by
  refine ⟨h, ?_⟩
  cases hd : d.toList with
  | nil =>
    have e : d.toList.length = 0 := by rw [hd]; rfl
    rw [Array.length_toList] at e
    omega
  | cons a r => simp [compF, compG]
omit [DecidableEq β] in
theorem key_get (h : m < d.size) : (d.toList.map key)[m]'(by simpa using h) = key d[m]! := by
  rw [List.getElem_map, getElem!_pos d m h]
  simp
theorem AllKeep.step (h : AllKeep key d m) (h0 : 0 < m) (hm : m < d.size) (hk : key d[m]! ≠ key d[m - 1]!) : AllKeep key d (m + 1) := by
  refine ⟨hm, ?_⟩
  have hl : m < (d.toList.map key).length := by simpa using hm
  rw [compF_step _ m hl h0, key_get hm, key_get (by omega), if_neg hk, h.2, take_snoc_get _ m hl, key_get hm]
theorem CompIv.start (h : AllKeep key d kk) (h0 : 0 < kk) (hm : kk < d.size) (hk : key d[kk]! = key d[kk - 1]!) : CompIv key d (kk + 1) kk d where
  size := rfl
  lt := Nat.lt_succ_self _
  le := hm
  low := by
    have hl : kk < (d.toList.map key).length := by simpa using hm
    rw [compF_step _ kk hl h0, key_get hm, key_get (by omega), if_pos hk, h.2, List.map_take]
  high := fun _ _ => rfl
  sub := take_sub _ (Nat.le_succ _)
theorem CompIv.skip (h : CompIv key d m kk dk) (hm : m < d.size) (hk : key d[m]! = key d[m - 1]!) : CompIv key d (m + 1) kk dk where
  size := h.size
  lt := by have := h.lt; omega
  le := hm
  low := by
    have hl : m < (d.toList.map key).length := by simpa using hm
    have := h.lt
    rw [compF_step _ m hl (by omega), key_get hm, key_get (by omega), if_pos hk, h.low]
  high := h.high
  sub := h.sub.trans (take_sub _ (Nat.le_succ _))
omit [Inhabited α] in
theorem take_set {l : List α} {k : Nat} {x : α} (h : k < l.length) : (l.set k x).take (k + 1) = l.take k ++ [x] := by
  rw [take_snoc_get _ k (by simpa using h), List.take_set_of_le (Nat.le_refl _)]
  simp
theorem CompIv.keep (h : CompIv key d m kk dk) (hm : m < d.size) (hk : key d[m]! ≠ key d[m - 1]!) : CompIv key d (m + 1) (kk + 1) (dk.setIfInBounds kk d[m]!) where
  size := by simp [h.size]
  lt := by have := h.lt; omega
  le := hm
  low := by
    have hl : m < (d.toList.map key).length := by simpa using hm
    have h1 := h.lt
    have h2 := h.size
    rw [compF_step _ m hl (by omega), key_get hm, key_get (by omega), if_neg hk, ← h.low]
    have hkk : kk < dk.toList.length := by simp; omega
    rw [Array.toList_setIfInBounds, take_set hkk, List.map_append]
    rfl
  high := fun j hj => by rw [Go.Sort.getElem!_set_other dk kk j _ (by omega), h.high j (by omega)]
  sub := by
    have h1 := h.lt
    have h2 := h.size
    have hkk : kk < dk.toList.length := by simp; omega
    have hmm : m < d.toList.length := by simpa using hm
    rw [Array.toList_setIfInBounds, take_set hkk, take_snoc_get _ m hmm]
    refine h.sub.append ?_
    rw [getElem!_pos d m hm]
    simp
end
section
variable {α : Type} [Inhabited α] {enc : α → Value} {w0 W : World} {blk off : Nat} {dk : Array α}
theorem SW_set (h : SW enc w0 blk off dk W) (hblk : blk < w0.heap.size) (i : Nat) (hi : i < dk.size) (x : α) : SW enc w0 blk off (dk.setIfInBounds i x) (W.setCell ⟨blk, off + i, none⟩ (enc x)) := by
  obtain ⟨n, os, rfl⟩ := h
  refine ⟨n, os, ?_⟩
  unfold sortWorld
  rw [← putRow_grow enc (Go.Sort.ahead w0 n) os blk off dk hblk, Go.Sort.putRow_set enc _ blk off dk i x hi, putRow_grow enc (Go.Sort.ahead w0 n) os blk off _ hblk]
theorem SW_clear (h : SW enc w0 blk off dk W) (hblk : blk < w0.heap.size) (k : Nat) (xs : List α) (hk : k + xs.length ≤ dk.size) : ∃ dk' : Array α, dk'.size = dk.size ∧ dk'.toList.take k = dk.toList.take k ∧ SW enc w0 blk off dk' (W.setCells blk (off + k) (xs.map enc)) := by
  obtain ⟨m, os, rfl⟩ := h
  have hs : (Go.Lib.lay dk k xs).size = dk.size := by
    have : ∀ (xs : List α) (d : Array α) (k : Nat), (Go.Lib.lay d k xs).size = d.size := by
      intro xs
      induction xs with
      | nil => intro d k; rfl
      | cons x r ih => intro d k; rw [Go.Lib.lay, ih]; simp
    exact this _ _ _
  refine ⟨Go.Lib.lay dk k xs, hs, ?_, m, os, ?_⟩
  · apply List.ext_getElem?
    intro j
    by_cases hj : j < k
    · rw [List.getElem?_take_of_lt hj, List.getElem?_take_of_lt hj, Array.getElem?_toList, Go.Lib.lay_get? _ _ _ _ hk, if_neg (by omega), Array.getElem?_toList]
    · rw [List.getElem?_eq_none (by simp; omega), List.getElem?_eq_none (by simp; omega)]
  · unfold sortWorld
    rw [← putRow_grow enc (Go.Sort.ahead w0 m) os blk off dk hblk, Go.Lib.putRow_setCells enc _ blk off _ dk k hk, putRow_grow enc (Go.Sort.ahead w0 m) os blk off _ hblk]
end
theorem quietAt {P : Program} {f : FuncId} {args : Array Value} {w : World} {q a : Nat} {v : Value} (h : Calls P f args (w.drewN (q + a)) fun e w' => e = .returned v ∧ ∃ n, w' = (w.drewN (q + a)).drewN n) : Calls P f args (w.drewN (q + a)) fun e w' => e = .returned v ∧ ∃ n, w' = w.drewN (q + n) :=
  h.mono fun _ _ ⟨he, m, hm⟩ => ⟨he, a + m, by rw [hm, World.drewN_drewN, Nat.add_assoc]⟩
instance instDecC : DecidableEq S58 := fun a b => if h : a.f0 = b.f0 ∧ a.f1 = b.f1 then .isTrue (by obtain ⟨a0, a1⟩ := a; obtain ⟨b0, b1⟩ := b; simp_all) else .isFalse (fun e => h (by rw [e]; exact ⟨rfl, rfl⟩))
open Go.Sort
theorem equalF_rounds (a b : List S58) (hl : a.length = b.length) (hs : a.length ≤ 9223372036854775807) : ∀ (suf pre : List S58), a = pre ++ suf → ∀ k, suf.length < k → impl_Cell_49.l0 k a b (a.length : Int) (pre.length : Int) = some (decide (suf = b.drop pre.length)) := by
  intro suf
  induction suf with
  | nil =>
    intro pre hx k hk
    obtain ⟨k, rfl⟩ : ∃ m, k = m + 1 := ⟨k - 1, by omega⟩
    rw [List.append_nil] at hx
    subst hx
    simp only [impl_Cell_49.l0]
    rw [if_neg (by omega), List.drop_of_length_le (by omega)]
    rfl
  | cons c suf ih =>
    intro pre hx k hk
    obtain ⟨k, rfl⟩ : ∃ m, k = m + 1 := ⟨k - 1, by omega⟩
    have hla : a.length = pre.length + (suf.length + 1) := by rw [hx]; simp
    have hpb : pre.length < b.length := by omega
    have ea : rd_T58 a (pre.length : Int) = c := by
      unfold rd_T58
      rw [hx]
      simp [List.getD]
    have eb : rd_T58 b (pre.length : Int) = b[pre.length] := by
      unfold rd_T58
      rw [List.getD_eq_getElem?_getD, Int.toNat_natCast, List.getElem?_eq_getElem hpb]
      rfl
    have ew : wrap64 ((pre.length : Int) + 1) = ((pre ++ [c]).length : Int) := by
      rw [List.length_append, List.length_singleton]
      simp only [wrap64]
      omega
    have hi := ih (pre ++ [c]) (by rw [hx]; simp) k (by simp at hk; omega)
    rw [List.length_append, List.length_singleton] at hi ew
    simp only [impl_Cell_49.l0]
    rw [if_pos (by omega), if_pos (by omega), if_pos (by omega), if_pos (by omega), ea, eb, ew, hi, List.drop_eq_getElem_cons hpb]
    generalize b[pre.length] = e
    generalize b.drop (pre.length + 1) = t
    split
    · rename_i h
      have hne : c ≠ e := by
        rintro rfl
        simp at h
      simp [hne]
    · rename_i h
      have heq : c = e := by
        cases c
        cases e
        simp_all
      subst heq
      simp
theorem equal_rounds (a b : List S58) (hs : a.length ≤ 9223372036854775807) : ∃ k, impl_equalShapes.f k a b = some (decide (a = b)) := by
  refine ⟨a.length + 1, ?_⟩
  unfold impl_equalShapes.f impl_Cell_49.f
  by_cases hl : a.length = b.length
  · rw [if_pos (by omega)]
    have := equalF_rounds a b hl hs a [] rfl (a.length + 1) (by omega)
    simp only [List.length_nil, Int.natCast_zero, List.drop_zero] at this
    rw [this]
    rfl
  · rw [if_neg (by omega)]
    have : a ≠ b := fun e => hl (by rw [e])
    simp [this]
set_option maxHeartbeats 4000000 in
set_option maxRecDepth 1000000 in
theorem impl_Cell_71__impl_equalShapes.rawE {W0 w : World} {ok : Nat → Prop} {base b cap : Nat} (d : Array (El W0 ok)) (hA : At w base b cap d) (hS : Same W0 w ok) (hg : ¬ ok b) (h0 : 0 < d.size) (hsz : d.size < 4611686018427387904)
    (heq : ∀ (W : World) (dk : Array (El W0 ok)), SW El.v w b 0 dk W → ∀ x y : El W0 ok, Calls Tryz.prog 72 #[x.v, y.v] W fun e w' => e = .returned (.bool (decide (x.l = y.l))) ∧ ∃ n, w' = W.drewN n) :
    Calls Tryz.prog 71 #[.slice (some ⟨b, 0, none⟩) d.size cap, .func (.func 72) #[] #[]] w fun e w' => ∃ (q : Nat) (dk : Array (El W0 ok)) (n : Nat) (os : Array Obj), e = .returned (.slice (some ⟨b, 0, none⟩) q cap) ∧ q ≤ dk.size ∧ dk.size = d.size ∧ (dk.toList.take q).map El.l = compF (d.toList.map El.l) ∧ (dk.toList.take q).Sublist d.toList ∧ w' = sortWorld El.v w b 0 n dk os := by
  have hlt := hA.lt
  have hH := hA.holds
  have hcap := hA.size
  have hcm := hA.max
  have hm : cap ≤ 9223372036854775807 := by unfold maxLen at hcm; omega
  have hO : OneCell (El.v (W0 := W0) (ok := ok)) := El.one
  have hcl0 := hO.cells
  simp only [Value.cells] at hcl0
  have hst := hO.store Tryz.prog
  have HE := aM heq
  have HH := aM hH
  have HL := aM hlt
  have hkey : (d.toList.map El.l).length = d.size := by simp
  have HK := aM hkey
  clear heq hH hlt hS hA hcm hkey hg
  by_cases h2 : d.size < 2
  · go_enter Tryz.func71, Tryz.ntmps71
    go_wp2
    go_ret
    have h1 := AllKeep.one (key := El.l) (d := d) (by omega)
    have e : d.size = 1 := by omega
    refine ⟨d.size, d, 0, #[], rfl, Nat.le_refl _, rfl, ?_, by rw [List.take_of_length_le (by simp)]; exact List.Sublist.refl _, (sortWorld_start El.v w b 0 d HH.out).symm⟩
    have := h1.2
    rw [List.take_of_length_le (by rw [HK.out]; omega)] at this
    rw [List.take_of_length_le (by simp), this]
  · go_enter Tryz.func71, Tryz.ntmps71
    go_wp2
    go_loopg [5] d.size (fun gh s5 wr => ∃ k q : Nat, 1 ≤ k ∧ k ≤ d.size ∧ d.size - k ≤ gh ∧ s5 = .int .i64 k ∧ wr = w.drewN q ∧ AllKeep El.l d k)
    case atStart => exact ⟨1, 0, Nat.le_refl _, by omega, by omega, rfl, rfl, AllKeep.one (by omega)⟩
    case round =>
      obtain ⟨k, q, hk1, hk, hgh, rfl, rfl, hall⟩ := hrel
      by_cases hlt : k < d.size
      · obtain ⟨c1, f1⟩ := HH.out k hlt
        obtain ⟨c0, f0⟩ := HH.out (k - 1) (by omega)
        rw [Nat.zero_add] at c1 c0 f1 f0
        have A := aM hall
        clear hall
        generalize hx : d[k]! = x at c1
        generalize hy : d[k - 1]! = y at c0
        have B : Aside0 (d[k]! = x ∧ d[k - 1]! = y) := ⟨⟨hx, hy⟩⟩
        clear hx hy
        by_cases hdup : x.l = y.l
        · have HD := aM hdup
          have i1 : IntKind.i64.wrap ((k : Int) - 1) = (k : Int) - 1 := IntWalk.i64_in _ (by omega)
          have i2 : (1 : Int) ≤ (k : Int) := by omega
          have i3 : ((k : Int) - 1).toNat = k - 1 := by omega
          have i4 : (k : Int) - 1 < (d.size : Int) := by omega
          have i5 : (0 : Int) ≤ (k : Int) - 1 := by omega
          go_wp2_with fail
          go_quiet ((exact quietAt (v := .bool true) ((HE.out _ d ((SW.start HH.out).drewN (q + _)) x y).mono fun _ _ hh => ⟨by rw [hh.1, decide_eq_true HD.out], hh.2⟩)))
          go_wp2
          clear c0 c1 f0 f1 i1 i2 i3 i4 i5
          go_loopg [5, 7] d.size (fun gh s5 s7 wr => ∃ (kk k2 : Nat) (dk : Array (El W0 ok)), s5 = .int .i64 kk ∧ s7 = .int .i64 k2 ∧ 1 ≤ k2 ∧ k + k2 ≤ d.size ∧ d.size - (k + k2) ≤ gh ∧ Aside0 (SW El.v w b 0 dk wr) ∧ Aside0 (CompIv El.l d (k + k2) kk dk))
          case atStart => exact ⟨k, 1, d, rfl, rfl, Nat.le_refl _, by omega, by omega, ⟨(SW.start HH.out).drewN _⟩, ⟨CompIv.start A.out (by omega) hlt (by rw [B.out.1, B.out.2]; exact HD.out)⟩⟩
          case round =>
            obtain ⟨kk, k2, dk, rfl, rfl, h1, hle, hg2, W2, I2⟩ := hrel
            have hkk := I2.out.lt
            have hds := I2.out.size
            have hHk : Holds El.v wr b 0 dk := W2.out.holds HL.out HH.out hds
            by_cases hlt2 : k + k2 < d.size
            · obtain ⟨cm, _⟩ := hHk (k + k2) (by omega)
              obtain ⟨cp, _⟩ := hHk (k + k2 - 1) (by omega)
              obtain ⟨ck, fk⟩ := hHk kk (by omega)
              rw [I2.out.high (k + k2) (by omega), Nat.zero_add] at cm
              rw [I2.out.high (k + k2 - 1) (by omega), Nat.zero_add, show k + k2 - 1 = k + (k2 - 1) by omega] at cp
              rw [Nat.zero_add] at ck fk
              clear hHk
              generalize hu : d[k + k2]! = u at cm
              generalize hv : d[k + (k2 - 1)]! = v at cp
              generalize dk[kk]! = old at ck
              have hv' : d[k + k2 - 1]! = v := by rw [show k + k2 - 1 = k + (k2 - 1) by omega]; exact hv
              have C : Aside0 (d[k + k2]! = u ∧ d[k + k2 - 1]! = v) := ⟨⟨hu, hv'⟩⟩
              clear hu hv hv'
              have i1 : IntKind.i64.wrap ((k2 : Int) - 1) = (k2 : Int) - 1 := IntWalk.i64_in _ (by omega)
              have i2 : (1 : Int) ≤ (k2 : Int) := by omega
              have i3 : ((k2 : Int) - 1).toNat = k2 - 1 := by omega
              have i4 : (k2 : Int) - 1 < ((d.size - k : Nat) : Int) := by omega
              have i5 : (0 : Int) ≤ (k2 : Int) - 1 := by omega
              have i6 : (k2 : Int) < ((d.size - k : Nat) : Int) := by omega
              by_cases huv : u.l = v.l
              · have HU := aM huv
                clear huv
                go_wp2_with fail
                go_quiet ((exact Calls.quiet_of (v := .bool true) ((HE.out _ dk (W2.out.drewN _) u v).mono fun _ _ hh => ⟨by rw [hh.1, decide_eq_true HU.out], hh.2⟩)))
                go_wp2
                go_roundg (d.size - (k + (k2 + 1)))
                case measure => omega
                case rel => exact ⟨kk, k2 + 1, dk, rfl, by go_num, by omega, by omega, Nat.le_refl _, ⟨W2.out.drewN _⟩, ⟨I2.out.skip hlt2 (by rw [C.out.1, C.out.2]; exact HU.out)⟩⟩
              · have HU := aM huv
                clear huv
                go_wp2_with fail
                go_quiet ((exact Calls.quiet_of (v := .bool false) ((HE.out _ dk (W2.out.drewN _) u v).mono fun _ _ hh => ⟨by rw [hh.1, decide_eq_false HU.out], hh.2⟩)))
                go_wp2
                go_roundg (d.size - (k + (k2 + 1)))
                case measure => omega
                case rel => exact ⟨kk + 1, k2 + 1, dk.setIfInBounds kk u, by go_num, by go_num, by omega, by omega, Nat.le_refl _, ⟨by have := SW_set (W2.out.drewN nq) HL.out kk (by omega) u; rwa [Nat.zero_add] at this⟩, ⟨by have := I2.out.keep hlt2 (by rw [C.out.1, C.out.2]; exact HU.out); rwa [C.out.1] at this⟩⟩
            · have hend : k + k2 = d.size := by omega
              have hcl : ∀ ty, (Builtin.clear_ #[54] ty #[.slice (some ⟨b, kk, none⟩) (d.size - kk) (cap - kk)]).run Tryz.prog wr = .ok (.tuple #[]) (wr.setCells b kk (List.replicate (d.size - kk) (default : El W0 ok).v)) :=
                fun ty => Lib.run_clear_slice wr _ _ ty _ Tryz.underlying54 Tryz.zeroValue28 rfl rfl b kk _ _ (by omega) (fun j hj => by have := (hHk (kk + j) (by omega)).1; rw [Nat.zero_add] at this; rw [this]; rfl) (fun j hj => by have := (hHk (kk + j) (by omega)).2; rw [Nat.zero_add] at this; exact this)
              clear hHk
              have i1 : ¬ (k2 : Int) < ((d.size - k : Nat) : Int) := by omega
              have i2 : kk < cap := by omega
              go_wp2
              go_ret
              obtain ⟨dk', hs', ht', n', os', hw'⟩ := SW_clear W2.out HL.out kk (List.replicate (d.size - kk) default) (by rw [List.length_replicate]; omega)
              rw [Nat.zero_add, List.map_replicate] at hw'
              have hI := I2.out
              rw [hend] at hI
              refine ⟨kk, rfl, dk', by omega, by omega, ?_, ?_, n', os', hw'⟩
              · (try rw [← List.map_take]); rw [ht', hI.low, List.take_of_length_le (by simp)]
              · rw [ht']; have := hI.sub; rwa [List.take_of_length_le (l := d.toList) (by simp)] at this
        · have HD := aM hdup
          clear hdup
          have i1 : IntKind.i64.wrap ((k : Int) - 1) = (k : Int) - 1 := IntWalk.i64_in _ (by omega)
          have i2 : (1 : Int) ≤ (k : Int) := by omega
          have i3 : ((k : Int) - 1).toNat = k - 1 := by omega
          have i4 : (k : Int) - 1 < (d.size : Int) := by omega
          have i5 : (0 : Int) ≤ (k : Int) - 1 := by omega
          go_wp2_with fail
          go_quiet ((exact quietAt (v := .bool false) ((HE.out _ d ((SW.start HH.out).drewN (q + _)) x y).mono fun _ _ hh => ⟨by rw [hh.1, decide_eq_false HD.out], hh.2⟩)))
          go_wp2
          go_roundg (d.size - (k + 1))
          case measure => omega
          case rel => exact ⟨k + 1, q + nq, by omega, by omega, Nat.le_refl _, by go_num, rfl, A.out.step (by omega) hlt (by rw [B.out.1, B.out.2]; exact HD.out)⟩
      · obtain rfl : k = d.size := by omega
        have A := aM hall
        clear hall
        go_wp2
        go_ret
        obtain ⟨n', os', hw'⟩ := (SW.start HH.out).drewN q
        refine ⟨d.size, d, n', os', rfl, Nat.le_refl _, rfl, ?_, by rw [List.take_of_length_le (by simp)]; exact List.Sublist.refl _, hw'⟩
        have := A.out.2
        rw [List.take_of_length_le (by rw [HK.out]; omega)] at this
        rw [List.take_of_length_le (by simp), this]
theorem impl_Cell_71__impl_equalShapes.raw {W0 w : World} {ok : Nat → Prop} {base b cap : Nat} (d : Array (El W0 ok)) (hA : At w base b cap d) (hS : Same W0 w ok) (hg : ¬ ok b) (h0 : 0 < d.size) (hsz : d.size < 4611686018427387904) :
    Calls Tryz.prog 71 #[.slice (some ⟨b, 0, none⟩) d.size cap, .func (.func 72) #[] #[]] w fun e w' => ∃ (q : Nat) (dk : Array (El W0 ok)) (n : Nat) (os : Array Obj), e = .returned (.slice (some ⟨b, 0, none⟩) q cap) ∧ q ≤ dk.size ∧ dk.size = d.size ∧ (dk.toList.take q).map El.l = compF (d.toList.map El.l) ∧ (dk.toList.take q).Sublist d.toList ∧ w' = sortWorld El.v w b 0 n dk os :=
  impl_Cell_71__impl_equalShapes.rawE d hA hS hg h0 hsz fun W dk hW x y => by
    obtain ⟨n, os, rfl⟩ := hW
    have hgw := sortW1_grown El.v w b n dk os
    obtain ⟨A0, c0, e0, hc0, hC0⟩ := x.now (hS.grown hgw hg)
    obtain ⟨A1, c1, e1, hc1, hC1⟩ := y.now (hS.grown hgw hg)
    obtain ⟨k, hk⟩ := equal_rounds x.l y.l hC0.2.1
    rw [e0, e1]
    exact (impl_equalShapes.calls k A0 c0 x.l A1 c1 y.l _ _ hC0 hc0 hC1 hc1 hk).mono fun _ _ hh => ⟨hh.1, hh.2.out⟩
open Go.Sort
def impl_tidyShapes.f (l0 : List (List S58)) : Option (List (List S58)) := if 0 < l0.length ∧ l0.length < 4611686018427387904 then some (compF (sortS l0)) else none
theorem szs_eq {w : World} {ok : Nat → Prop} {d d1 : Array (El w ok)} (h : d1.toList.Perm d.toList) : d.size = d1.size := by
  have := h.length_eq
  rw [Array.length_toList, Array.length_toList] at this
  exact this.symm
set_option maxHeartbeats 4000000 in
theorem impl_tidyShapes.raw {w : World} {ok : Nat → Prop} {base g cap : Nat} (d : Array (El w ok)) (hA : At w base g cap d) (hg : ¬ ok g) (h0 : 0 < d.size) (hsz : d.size < 4611686018427387904) :
    Calls Tryz.prog 61 #[.slice (some ⟨g, 0, none⟩) d.size cap] w fun e w' => ∃ dk : Array (El w ok), e = .returned (.slice (some ⟨g, 0, none⟩) dk.size cap) ∧ At w' base g cap dk ∧ Same w w' ok ∧ dk.toList.map El.l = compF (sortS (d.toList.map El.l)) ∧ ((∀ x ∈ dk.toList, x ∈ d.toList) ∧ ((d.toList.map El.j).Nodup → (dk.toList.map El.j).Nodup)) ∧ w.grownBy w' (some g) := by
  have HA := aM hA
  have HG := aM hg
  have H0 := aM h0
  have HZ := aM hsz
  clear hA hg h0 hsz
  go_enter Tryz.func61, Tryz.ntmps61
  go_wp2_with (first
    | (go_at_call 69; refine (impl_Cell_69__impl_compareShapes.raw d HA.out (Same.refl _ _) HG.out HZ.out).mono ?_; rintro e w1 ⟨rfl, d1, n1, os1, hp, hr, hw⟩; have HP := aM hp; have HR := aM hr; have HW := aM hw; have HS := aM (szs_eq hp); clear hp hr hw)
    | (go_at_call 71; have hC := impl_Cell_71__impl_equalShapes.raw (w := w1) (base := base) (cap := cap) d1 (by rw [HW.out]; exact HA.out.sorted HS.out.symm) (by rw [HW.out]; exact (Same.refl _ _).grown (sortW1_grown _ _ _ _ _ _) HG.out) HG.out (by rw [← HS.out]; exact H0.out) (by rw [← HS.out]; exact HZ.out); rw [← HS.out] at hC; refine hC.mono ?_; clear hC; rintro e w2 ⟨q, dk, n2, os2, rfl, hq, hs2, hl, hsub, hw2⟩; have H2 := aM (And.intro hq (And.intro hs2 (And.intro hl (And.intro hsub hw2)))); clear hq hs2 hl hsub hw2))
  go_ret
  obtain ⟨hq, hs2, hl, hsub, hw2⟩ := H2.out
  have g1 := sortW1_grown El.v w g n1 d1 os1
  rw [← HW.out] at g1
  have g2 := sortW1_grown El.v w1 g n2 dk os2
  rw [← hw2] at g2
  have hs1 := HS.out
  have A1 : At w1 base g cap d1 := by rw [HW.out]; exact HA.out.sorted hs1.symm
  have A2 : At w2 base g cap dk := by rw [hw2]; exact A1.sorted (hs2.trans hs1)
  have hz : (dk.toList.take q).toArray.size = q := by simp; omega
  refine ⟨(dk.toList.take q).toArray, by rw [hz]; rfl, A2.cut q hq, ((Same.refl _ _).grown g1 HG.out).grown g2 HG.out, by rw [← HR.out]; exact hl, ⟨fun x hx => HP.out.mem_iff.1 (hsub.mem hx), fun hn => ?_⟩, g1.trans g2⟩
  exact ((hsub.map El.j).nodup (((HP.out.map El.j).nodup_iff).2 hn))
theorem impl_tidyShapes.calls (P0_ : Nat → Prop) (u9000_ : Value) (l0 : List (List S58)) (r : List (List S58)) (w0 w : World) (hB : Below w0.heap.size w0 w) (ho0 : Kd.S (Kd.slice 58 k58) 28 w w0.heap.size P0_ u9000_ l0) (h : impl_tidyShapes.f l0 = some r) :
    Calls Tryz.prog 61 #[u9000_] w fun e w' => ∃ v0_ : Value, e = .returned (v0_) ∧ Kd.S (Kd.slice 58 k58) 28 w' w0.heap.size (fun k_ => (P0_ k_ ∨ w.heap.size ≤ k_)) v0_ r ∧ Below w0.heap.size w0 w' ∧ Kept w w' (fun k_ => some k_ = u9000_.ownBlock) := by
  unfold impl_tidyShapes.f at h
  by_cases hl : 0 < l0.length ∧ l0.length < 4611686018427387904
  · rw [if_pos hl] at h
    obtain rfl := Option.some.inj h
    obtain ⟨g, cap, rfl, _⟩ := Kd.S_form ho0 hl.1
    obtain ⟨hok, hn, f, d, hd, hA, hj, hM⟩ := S_open ho0
    have hdn : d.size = l0.length := by rw [← hd]; simp
    have hcon := impl_tidyShapes.raw d hA (fun h_ => h_.2 rfl) (by omega) (by omega)
    rw [hdn] at hcon
    refine hcon.mono ?_
    rintro e w' ⟨dk, rfl, hA2, hS2, hl2, ⟨hmem, hnod⟩, hgw⟩
    rw [hd] at hl2
    refine ⟨_, rfl, ?_, pw_below_grown hB (some g) hB.size hgw (fun k hk => by injection hk with hk; exact hk ▸ hA.base), ?_⟩
    · have h2 := S_close hok hA2 hS2 (hnod (by rw [hj]; exact List.nodup_range)) (fun x hx => hM x (hmem x hx))
      rw [hl2] at h2
      exact Kd.S_mono h2 (fun _ hk => .inl hk)
    · refine ⟨hgw.size, fun i hi hn => hgw.block i hi ?_⟩
      intro e
      injection e with e
      exact hn (e ▸ rfl)
  · rw [if_neg hl] at h
    exact absurd h (by simp)
mutual
def impl_turnCell.j0 : Nat → Int → Int → Int → Option (Int × Int)
 | 0, _, _, _ => none
 | k + 1, x1, x412000, x412001 => impl_turnCell.l0 k (Int.tmod x1 4) 0 x412000 x412001
def impl_turnCell.l0 : Nat → Int → Int → Int → Int → Option (Int × Int)
 | 0, _, _, _, _ => none
 | k + 1, x12, x13, x412000, x412001 => if x13 < x12 then (impl_turnCell.l0 k x12 (wrap64 (x13 + 1)) (wrap64 (-x412001)) x412000) else (some (x412000, x412001))
end
def impl_turnCell.f (k : Nat) (a0_0 : Int) (a0_1 : Int) (a1 : Int) : Option (Int × Int) := if a1 ≥ 4 then (impl_turnCell.j0 k a1 (wrap64 (-a0_0)) a0_1) else (impl_turnCell.j0 k a1 a0_0 a0_1)
theorem impl_turnCell.calls (k : Nat) (a0_0 : Int) (a0_1 : Int) (a1 : Int) (r1 : Int) (r2 : Int) (w : World) (h : impl_turnCell.f k a0_0 a0_1 a1 = some (r1, r2)) :
  Calls Tryz.prog 81 #[.agg #[.int .i64 a0_0, .int .i64 a0_1], .int .i64 a1] w fun e w' => e = .returned (.agg #[.int .i64 r1, .int .i64 r2]) ∧ Below w.heap.size w w' := by
 have hu58 := Tryz.underlying58
 have HB := aM (Below.refl w.heap.size w)
 have H : (if a1 ≥ 4 then (impl_turnCell.j0 k a1 (wrap64 (-a0_0)) a0_1) else (impl_turnCell.j0 k a1 a0_0 a0_1)) = some (r1, r2) := h
 clear h
 have HC3 := aM H
 clear H
 go_enter Tryz.func81, Tryz.ntmps81
 go_upto_if 6 with (first | ((with_reducible refine gate_dst (N := 2) rfl ?_); refine zx 2 #[.int .i64 a0_0, .int .i64 a0_1] 58 ?_; intro gb411 hg w4 hbox hb; have n0_ := aM (below_step zb hb); have n1_ := aM (hbox); have n2_ := aM ((ze : w.heap.size ≤ gb411)); have n3_ := aM ((ze : w.heap.size ≤ gb411)); clear HB; have HB := n0_; have BK411 := n1_; have GW411 := n2_; have GE411 := n3_; clear n0_ n1_ n2_ n3_; clear hb hbox hg) | ((with_reducible refine gate_dst (N := 4) rfl ?_); refine zx 4 #[.int .i64 0, .int .i64 0] 58 ?_; intro gb412 hg w5 hbox hb; have n0_ := aM (blk_below (g := gb411) (o := .cells #[.int .i64 a0_0, .int .i64 a0_1] 58 (0, 0)) (mB_ BK411.out) hb); have n1_ := aM (below_step (zs GE411.out) hb); have n2_ := aM (hbox); have n3_ := aM ((zf GE411.out : w.heap.size ≤ gb412)); have n4_ := aM ((zf GE411.out : w.heap.size ≤ gb412)); have n5_ := aM ((zl BK411.out : gb411 ≠ gb412)); have n6_ := aM ((zn BK411.out : gb412 ≠ gb411)); clear BK411 HB; have BK411 := n0_; have HB := n1_; have BK412 := n2_; have GW412 := n3_; have GE412 := n4_; have NB411_412 := n5_; have NB412_411 := n6_; clear n0_ n1_ n2_ n3_ n4_ n5_ n6_; clear hb hbox hg))
 (try simp only [Act.put, xA, xB, xC])
 go_cut [] (fun wc => ∃ (kq : Nat) (x412000_2 : Int), Aside0 (impl_turnCell.j0 kq a1 x412000_2 a0_1 = some (r1, r2)) ∧ Aside0 (kq ≤ k) ∧ Aside0 (wc.heap[gb411]? = some (.cells #[.int .i64 x412000_2, .int .i64 a0_1] 58 (0, 0))) ∧ Aside0 (wc.heap[gb412]? = some (.cells #[.int .i64 0, .int .i64 0] 58 (0, 0))) ∧ Aside0 (Below w.heap.size w wc))
 case first =>
  have H := HC3.out
  clear HC3
  by_cases c6 : a1 ≥ 4
  rotate_left
  ·rw [if_neg c6] at H
   have c6b0 : decide (4 ≤ a1) = false := decide_eq_false c6
   clear c6
   (first | rw [c6b0] | (simp only [i64_w, i32_w]; rw [c6b0]) | skip)
   have H' := aM H
   clear H
   go_wp2
   go_meet
   case rel => exact ⟨_, (a0_0), H', ⟨by first | omega | exact Nat.le_refl _⟩, ⟨mB_ BK411.out⟩, ⟨mB_ BK412.out⟩, ⟨zt GE411.out GE412.out⟩⟩
  rw [if_pos c6] at H
  have c6b0 : decide (4 ≤ a1) = true := decide_eq_true c6
  clear c6
  (first | rw [c6b0] | (simp only [i64_w, i32_w]; rw [c6b0]) | skip)
  have H' := aM H
  clear H
  have hnb7 := NB411_412.out
  have hnc7 := NB412_411.out
  have hcz8_0 : w5.cell? ⟨gb411, 0, none⟩ = some (.int .i64 a0_0) := (blk_cell BK411.out 0).trans rfl
  have hcz8_1 : w5.cell? ⟨gb411, 1, none⟩ = some (.int .i64 a0_1) := (blk_cell BK411.out 1).trans rfl
  have hfz8_0 := blk_frozen BK411.out 0
  have hfz8_1 := blk_frozen BK411.out 1
  go_wp2
  go_meet
  case rel => exact ⟨_, (wrap64 (-a0_0)), H', ⟨by first | omega | exact Nat.le_refl _⟩, ⟨by (with_reducible repeat (first | refine blk_drewN ?_ _ | refine blk_drew ?_ | refine blk_alloc ?_ _)); refine blk_put (cs := #[.int .i64 a0_0, .int .i64 a0_1]) ?_ 0 _ rfl; (with_reducible repeat (first | refine blk_drewN ?_ _ | refine blk_drew ?_ | refine blk_alloc ?_ _)); exact BK411.out⟩, ⟨by (with_reducible repeat (first | refine blk_drewN ?_ _ | refine blk_drew ?_ | refine blk_alloc ?_ _)); refine blk_far ?_ NB412_411.out _; (with_reducible repeat (first | refine blk_drewN ?_ _ | refine blk_drew ?_ | refine blk_alloc ?_ _)); exact BK412.out⟩, ⟨zt GE411.out GE412.out⟩⟩
 case rest =>
  clear HC3
  try clear p2
  try clear c6
  try clear c6b0
  try clear p6
  try clear c7
  try clear c8
  try clear hcz8_0
  try clear hcz8_1
  try clear hfz8_0
  try clear hfz8_1
  obtain ⟨kq, x412000_2, HA, HJ2, BK411, BK412, HB⟩ := hcut
  cases kq with
  | zero => exact absurd HA.out (by simp [impl_turnCell.j0])
  | succ kj2 =>
   have H := HA.out
   clear HA
   simp only [impl_turnCell.j0] at H
   have H' := aM H
   clear H
   go_wp2
   go_loopg [13] kj2 (fun kq v13 w' => ∃ (x13_2 : Int) (x412000_2 : Int) (x412001_2 : Int), v13 = .int .i64 x13_2 ∧ Aside0 (impl_turnCell.l0 kq (Int.tmod a1 4) x13_2 x412000_2 x412001_2 = some (r1, r2)) ∧ Aside0 (kq ≤ kj2) ∧ Aside0 (w'.heap[gb411]? = some (.cells #[.int .i64 x412000_2, .int .i64 x412001_2] 58 (0, 0))) ∧ Aside0 (w'.heap[gb412]? = some (.cells #[.int .i64 0, .int .i64 0] 58 (0, 0))) ∧ Aside0 (Below w.heap.size w w'))
   case atStart => exact ⟨(0), (x412000_2), (a0_1), zr, H', ⟨Nat.le_refl _⟩, ⟨mB_ BK411.out⟩, ⟨mB_ BK412.out⟩, ⟨zt GE411.out GE412.out⟩⟩
   case round =>
    clear H'
    try clear p2
    try clear c6
    try clear c6b0
    try clear p6
    try clear c7
    try clear c8
    try clear hcz8_0
    try clear hcz8_1
    try clear hfz8_0
    try clear hfz8_1
    try clear p2
    try clear p6
    obtain ⟨x13_2, x412000_2, x412001_2, rfl, HA, HK2, BK411, BK412, HB⟩ := hrel
    cases gk with
    | zero => exact absurd HA.out (by simp [impl_turnCell.l0])
    | succ k2 =>
     have H := HA.out
     clear HA
     simp only [impl_turnCell.l0] at H
     by_cases c9 : x13_2 < (Int.tmod a1 4)
     ·rw [if_pos c9] at H
      have c9b0 : decide (x13_2 < (Int.tmod a1 4)) = true := decide_eq_true c9
      clear c9
      have H' := aM H
      clear H
      have hnb10 := NB411_412.out
      have hnc10 := NB412_411.out
      have hcz11_0 : wr.cell? ⟨gb411, 0, none⟩ = some (.int .i64 x412000_2) := (blk_cell BK411.out 0).trans rfl
      have hcz11_1 : wr.cell? ⟨gb411, 1, none⟩ = some (.int .i64 x412001_2) := (blk_cell BK411.out 1).trans rfl
      have hfz11_0 := blk_frozen BK411.out 0
      have hfz11_1 := blk_frozen BK411.out 1
      go_wp2
      go_roundg k2
      case measure => have := HJ2.out; have := HK2.out; omega
      case rel => exact ⟨(wrap64 (x13_2 + 1)), (wrap64 (-x412001_2)), (x412000_2), zr, H', ⟨by have := HJ2.out; have := HK2.out; omega⟩, ⟨by (with_reducible repeat (first | refine blk_drewN ?_ _ | refine blk_drew ?_ | refine blk_alloc ?_ _)); refine blk_put (cs := #[.int .i64 (wrap64 (-x412001_2)), .int .i64 x412001_2]) ?_ 1 _ rfl; (with_reducible repeat (first | refine blk_drewN ?_ _ | refine blk_drew ?_ | refine blk_alloc ?_ _)); refine blk_put (cs := #[.int .i64 x412000_2, .int .i64 x412001_2]) ?_ 0 _ rfl; (with_reducible repeat (first | refine blk_drewN ?_ _ | refine blk_drew ?_ | refine blk_alloc ?_ _)); exact BK411.out⟩, ⟨by (with_reducible repeat (first | refine blk_drewN ?_ _ | refine blk_drew ?_ | refine blk_alloc ?_ _)); refine blk_far ?_ NB412_411.out _; (with_reducible repeat (first | refine blk_drewN ?_ _ | refine blk_drew ?_ | refine blk_alloc ?_ _)); refine blk_far ?_ NB412_411.out _; (with_reducible repeat (first | refine blk_drewN ?_ _ | refine blk_drew ?_ | refine blk_alloc ?_ _)); exact BK412.out⟩, ⟨zt GE411.out GE412.out⟩⟩
     rw [if_neg c9] at H
     have c9b0 : decide (x13_2 < (Int.tmod a1 4)) = false := decide_eq_false c9
     clear c9
     simp only [Option.some.injEq, Prod.mk.injEq] at H
     obtain ⟨rfl, rfl⟩ := H
     have hnb12 := NB411_412.out
     have hnc12 := NB412_411.out
     have hcz13_0 : wr.cell? ⟨gb411, 0, none⟩ = some (.int .i64 x412000_2) := (blk_cell BK411.out 0).trans rfl
     have hcz13_1 : wr.cell? ⟨gb411, 1, none⟩ = some (.int .i64 x412001_2) := (blk_cell BK411.out 1).trans rfl
     have hfz13_0 := blk_frozen BK411.out 0
     have hfz13_1 := blk_frozen BK411.out 1
     have hcz14_0 : wr.cell? ⟨gb412, 0, none⟩ = some (.int .i64 0) := (blk_cell BK412.out 0).trans rfl
     have hcz14_1 : wr.cell? ⟨gb412, 1, none⟩ = some (.int .i64 0) := (blk_cell BK412.out 1).trans rfl
     have hfz14_0 := blk_frozen BK412.out 0
     have hfz14_1 := blk_frozen BK412.out 1
     go_wp2
     refine bodyPost_ret (results_cell_row rfl _ _ gb412 58 #[.int .i64 x412000_2, .int .i64 x412001_2] (0, 0) _ rfl (by (with_reducible repeat (first | refine blk_drewN ?_ _ | refine blk_drew ?_ | refine blk_alloc ?_ _)); refine blk_put (cs := #[.int .i64 x412000_2, .int .i64 0]) ?_ 1 _ rfl; (with_reducible repeat (first | refine blk_drewN ?_ _ | refine blk_drew ?_ | refine blk_alloc ?_ _)); refine blk_put (cs := #[.int .i64 0, .int .i64 0]) ?_ 0 _ rfl; (with_reducible repeat (first | refine blk_drewN ?_ _ | refine blk_drew ?_ | refine blk_alloc ?_ _)); exact BK412.out) Tryz.underlying58 rfl (by kernel_rfl)) rfl ?_
     exact ⟨zw, zt GE411.out GE412.out⟩
def impl_moved.l0 : Nat → Int → Int → List (S58) → List (S58) → Int → Int → Option ((List (S58)))
 | 0, _, _, _, _, _, _ => none
 | k + 1, x1, x2, x7, x13, x14, x15 => if x15 < x14 then (if 0 ≤ x15 then (if x15 < (x13.length : Int) then (if x7.length < 8796093022208 then (impl_moved.l0 k x1 x2 (x7 ++ [(⟨wrap64 (((rd_T58 x13 x15).f0) + x1), wrap64 (((rd_T58 x13 x15).f1) + x2)⟩ : S58)]) x13 x14 (wrap64 (x15 + 1))) else (none)) else (none)) else (none)) else (some x7)
def impl_moved.f (k : Nat) (l0 : List (S58)) (a1 : Int) (a2 : Int) : Option ((List (S58))) := if 0 ≤ (l0.length : Int) then (if ((l0.length : Int) : Int).toNat ≤ 17592186044416 then (impl_moved.l0 k a1 a2 (([] : List (S58))) l0 (l0.length : Int) 0) else (none)) else (none)
theorem impl_moved.calls (k : Nat) (A0 : Option Addr) (c0 : Nat) (l0 : List (S58)) (a1 : Int) (a2 : Int) (r : List (S58)) (w : World) (hr0 : Kd.C k58 w A0 l0.length l0) (hc0 : l0.length ≤ c0) (h : impl_moved.f k l0 a1 a2 = some r) :
  Calls Tryz.prog 96 #[.slice A0 l0.length c0, .int .i64 a1, .int .i64 a2] w fun e w' => ∃ v0_ : Value, e = .returned (v0_) ∧ Kd.R k58 58 w' w.heap.size (fun _ => True) v0_ r ∧ Below w.heap.size w w' := by
 have hu58 := Tryz.underlying58
 have HR0 := aM hr0
 have HC0 := aM hc0
 clear hr0 hc0
 have HB := aM (Below.refl w.heap.size w)
 have H : (if 0 ≤ (l0.length : Int) then (if ((l0.length : Int) : Int).toNat ≤ 17592186044416 then (impl_moved.l0 k a1 a2 (([] : List (S58))) l0 (l0.length : Int) 0) else (none)) else (none)) = some r := h
 clear h
 by_cases c4 : 0 ≤ (l0.length : Int)
 rotate_left
 ·rw [if_neg c4] at H
  exact absurd H (by simp)
 rw [if_pos c4] at H
 have c4b0 := eq_true c4
 have c4b1 : decide (0 ≤ (l0.length : Int)) = true := decide_eq_true c4
 clear c4
 by_cases c5 : ((l0.length : Int) : Int).toNat ≤ 17592186044416
 rotate_left
 ·rw [if_neg c5] at H
  exact absurd H (by simp)
 rw [if_pos c5] at H
 have c5b0 := eq_true c5
 have c5b1 : decide (((l0.length : Int) : Int).toNat ≤ 17592186044416) = true := decide_eq_true c5
 clear c5
 obtain ⟨y413, hy413⟩ : ∃ y_ : List (S58), y_ = (([] : List (S58))) := ⟨_, rfl⟩
 replace H : (impl_moved.l0 k a1 a2 y413 l0 (l0.length : Int) 0) = some r := zy H hy413
 have Ny413 := aM hy413
 clear hy413
 have H' := aM H
 clear H
 go_enter Tryz.func96, Tryz.ntmps96
 go_wp2_with (first | ((with_reducible refine gate_dst (N := 12) rfl ?_); refine Kd.R_make0 k58 _ 58 rfl (N := 12) rfl 28 _ _ rfl (l0.length : Int) rfl rfl Tryz.underlying28 (.agg #[(.int .i64 0), (.int .i64 0)]) 16 info58 rfl (by decide) (by omega) z58 (ok := fun _ => True) (okp := fun _ => True) (k58_mkM _ _ _ z58 ) (fun _ hk => hk) trivial (of_decide_eq_true za) (Nat.le_trans (Nat.mul_le_mul_right _ (of_decide_eq_true za : (l0.length : Int).toNat ≤ 17592186044416)) (by omega)) (Below.refl _ _) (Nat.le_refl _) ?_; intro v414 w6 ho7 hb hg_ hnew_; clear hg_ hnew_; (first | rw [← Ny413.out] at ho7 | (simp only [Int.reduceToNat] at ho7; rw [← Ny413.out] at ho7)); have n0_ := aM (Kd.R_lower ho7 (below_size zb)); have n1_ := aM (below_step zb hb); clear HB; have HO415 := n0_; have HB := n1_; clear n0_ n1_; clear hb ho7))
 go_loopg [7, 15] k (fun kq v7 v15 w' => ∃ (x7_1 : List (S58)) (x15_1 : Int), v15 = .int .i64 x15_1 ∧ Aside0 (impl_moved.l0 kq a1 a2 x7_1 l0 (l0.length : Int) x15_1 = some r) ∧ Aside0 (kq ≤ k) ∧ Aside0 (Kd.R k58 58 w' w.heap.size (fun _ => True) v7 x7_1) ∧ Aside0 (Below w.heap.size w w'))
 case atStart => exact ⟨(y413), (0), zr, H', ⟨Nat.le_refl _⟩, ⟨mR_ HO415.out⟩, ⟨zb⟩⟩
 case round =>
  clear H'
  try clear p2
  try clear c4
  try clear c4b0
  try clear c4b1
  try clear c5
  try clear c5b0
  try clear c5b1
  obtain ⟨x7_1, x15_1, rfl, HA, HK1, HO_7, HB⟩ := hrel
  cases gk with
  | zero => exact absurd HA.out (by simp [impl_moved.l0])
  | succ k1 =>
   have H := HA.out
   clear HA
   simp only [impl_moved.l0] at H
   by_cases c8 : x15_1 < (l0.length : Int)
   rotate_left
   ·rw [if_neg c8] at H
    have c8b0 : decide (x15_1 < (l0.length : Int)) = false := decide_eq_false c8
    clear c8
    obtain rfl := Option.some.inj H
    go_wp2
    go_ret
    exact ⟨_, zw, mR_ HO_7.out, zb⟩
   rw [if_pos c8] at H
   have c8b0 : decide (x15_1 < (l0.length : Int)) = true := decide_eq_true c8
   clear c8
   by_cases c9 : 0 ≤ x15_1
   rotate_left
   ·rw [if_neg c9] at H
    exact absurd H (by simp)
   rw [if_pos c9] at H
   have c9b0 : decide (0 ≤ x15_1) = true := decide_eq_true c9
   clear c9
   by_cases c10 : x15_1 < (l0.length : Int)
   rotate_left
   ·rw [if_neg c10] at H
    exact absurd H (by simp)
   rw [if_pos c10] at H
   have c10b0 : decide (x15_1 < (l0.length : Int)) = true := decide_eq_true c10
   clear c10
   by_cases c11 : x7_1.length < 8796093022208
   rotate_left
   ·rw [if_neg c11] at H
    exact absurd H (by simp)
   rw [if_pos c11] at H
   have LMc11 := aM c11
   clear c11
   obtain ⟨y418, hy418⟩ : ∃ y_ : List (S58), y_ = (x7_1 ++ [(⟨wrap64 (((rd_T58 l0 x15_1).f0) + a1), wrap64 (((rd_T58 l0 x15_1).f1) + a2)⟩ : S58)]) := ⟨_, rfl⟩
   replace H : (impl_moved.l0 k1 a1 a2 y418 l0 (l0.length : Int) (wrap64 (x15_1 + 1))) = some r := zy H hy418
   have Ny418 := aM hy418
   clear hy418
   have H' := aM H
   clear H
   have p416 : 0 ≤ (x15_1 : Int) := of_decide_eq_true za
   have q416 : x15_1 < (l0.length : Int) := of_decide_eq_true za
   obtain ⟨ad416, e416, hx416_0, hx416_1⟩ := at_T58 HR0.out x15_1 p416 q416
   cases e416
   replace hx416_0 := zk HB.out hx416_0
   replace hx416_1 := zk HB.out hx416_1
   replace p416 := eq_true p416
   replace q416 := eq_true q416
   go_wp2_with (first | ((with_reducible refine gate_dst (N := 9) rfl ?_); refine zx 9 #[.int .i64 0, .int .i64 0] 58 ?_; intro gb417 hg w12 hbox hb; have n0_ := aM (Kd.R_below (Kd.R_elderB (mR_ HO_7.out) gb417 (Nat.le_of_eq hg.symm)) hb); have n1_ := aM (below_step zb hb); have n2_ := aM (hbox); have n3_ := aM ((ze : w.heap.size ≤ gb417)); have n4_ := aM ((ze : w.heap.size ≤ gb417)); clear HO_7 HB; have HO_7 := n0_; have HB := n1_; have BK417 := n2_; have GW417 := n3_; have GE417 := n4_; clear n0_ n1_ n2_ n3_ n4_ hb hbox hg; have hcz13_0 : w12.cell? ⟨gb417, 0, none⟩ = some (.int .i64 0) := (blk_cell BK417.out 0).trans rfl; have hcz13_1 : w12.cell? ⟨gb417, 1, none⟩ = some (.int .i64 0) := (blk_cell BK417.out 1).trans rfl; have hfz13_0 := blk_frozen BK417.out 0; have hfz13_1 := blk_frozen BK417.out 1) | ((with_reducible refine gate_builtin (b := .append) (xs := #[.tmp 19, .tmp 29]) rfl ?_); at_builtin; refine Kd.R_append k58 (w0 := w) w.heap.size rfl (.tmp 19) (.tmp 29) 28 58 (.agg #[(.int .i64 0), (.int .i64 0)]) 16 rfl Tryz.underlying28 info58 rfl (by decide) (by omega) u7 x7_1 (⟨wrap64 (((rd_T58 l0 x15_1).f0) + a1), wrap64 (((rd_T58 l0 x15_1).f1) + a2)⟩ : S58) [.int .i64 (wrap64 (((rd_T58 l0 x15_1).f0) + a1)), .int .i64 (wrap64 (((rd_T58 l0 x15_1).f1) + a2))] (fun k_ => k_ ≠ gb417) (fun _ => False) rfl (by first | (go_simp; done) | (go_simp; rfl)) ?aP (fun _ hk => hk.elim) ?aF ?aO ?aB ?aS ?aL ?_; (case aP => exact k58_mkM _ _ _ (⟨wrap64 (((rd_T58 l0 x15_1).f0) + a1), wrap64 (((rd_T58 l0 x15_1).f1) + a2)⟩ : S58)); (case aB => exact (zs GE417.out)); (case aF => exact (fun k_ hk => Kd.freshB (g := gb417) (o := .cells #[.int .i64 ((rd_T58 l0 x15_1).f0), .int .i64 ((rd_T58 l0 x15_1).f1)] 58 (0, 0)) (by (with_reducible repeat (first | refine blk_drewN ?_ _ | refine blk_drew ?_ | refine blk_alloc ?_ _)); refine blk_put (cs := #[.int .i64 ((rd_T58 l0 x15_1).f0), .int .i64 0]) ?_ 1 _ rfl; (with_reducible repeat (first | refine blk_drewN ?_ _ | refine blk_drew ?_ | refine blk_alloc ?_ _)); refine blk_put (cs := #[.int .i64 0, .int .i64 0]) ?_ 0 _ rfl; (with_reducible repeat (first | refine blk_drewN ?_ _ | refine blk_drew ?_ | refine blk_alloc ?_ _)); exact BK417.out) k_ hk)); (case aO => exact (by (with_reducible repeat (first | apply Kd.R_alloc | apply Kd.R_drewN | apply Kd.R_drew)); exact Kd.R_mono (Kd.R_far (p := ⟨gb417, 1, none⟩) (Kd.R_far (p := ⟨gb417, 0, none⟩) (Kd.R_mono HO_7.out (fun k_ hk => (⟨hk, hk.2⟩ : _ ∧ k_ ≠ gb417))) (fun _ hk => hk.2) (.int .i64 ((rd_T58 l0 x15_1).f0))) (fun _ hk => hk.2) (.int .i64 ((rd_T58 l0 x15_1).f1))) (fun _ hk => hk.1.2))); (case aS => exact (below_size (zs GE417.out))); (case aL => have := LMc11.out; omega); intro v419 w14 ho hb hg hat; rw [← Ny418.out] at ho; have n0_ := aM (blk_grown (g := gb417) (o := .cells #[.int .i64 ((rd_T58 l0 x15_1).f0), .int .i64 ((rd_T58 l0 x15_1).f1)] 58 (0, 0)) (by (with_reducible repeat (first | refine blk_drewN ?_ _ | refine blk_drew ?_ | refine blk_alloc ?_ _)); refine blk_put (cs := #[.int .i64 ((rd_T58 l0 x15_1).f0), .int .i64 0]) ?_ 1 _ rfl; (with_reducible repeat (first | refine blk_drewN ?_ _ | refine blk_drew ?_ | refine blk_alloc ?_ _)); refine blk_put (cs := #[.int .i64 0, .int .i64 0]) ?_ 0 _ rfl; (with_reducible repeat (first | refine blk_drewN ?_ _ | refine blk_drew ?_ | refine blk_alloc ?_ _)); exact BK417.out) hg (Kd.R_away HO_7.out (fun _ hk => hk.2))); have n1_ := aM (hb); have n2_ := aM (ho); clear BK417 HB HO_7; have BK417 := n0_; have HB := n1_; have HO420 := n2_; clear n0_ n1_ n2_; clear ho hb hg hat))
   go_roundg k1
   case measure => have := HK1.out; omega
   case rel => exact ⟨(y418), (wrap64 (x15_1 + 1)), zr, H', ⟨by have := HK1.out; omega⟩, ⟨zd0 HO420.out⟩, ⟨zs GE417.out⟩⟩
def impl_normal.f (k : Nat) (l0 : List (S58)) : Option ((List (S58))) := (impl_corner.f k l0).bind fun bt421 => ((impl_moved.f k l0 (wrap64 (-bt421.1)) (wrap64 (-bt421.2))).bind fun t424 => (some t424))
theorem impl_normal.calls (k : Nat) (A0 : Option Addr) (c0 : Nat) (l0 : List (S58)) (r : List (S58)) (w : World) (hr0 : Kd.C k58 w A0 l0.length l0) (hc0 : l0.length ≤ c0) (h : impl_normal.f k l0 = some r) :
  Calls Tryz.prog 82 #[.slice A0 l0.length c0] w fun e w' => ∃ v0_ : Value, e = .returned (v0_) ∧ Kd.R k58 58 w' w.heap.size (fun _ => True) v0_ r ∧ Below w.heap.size w w' := by
 have hu58 := Tryz.underlying58
 have HR0 := aM hr0
 have HC0 := aM hc0
 clear hr0 hc0
 have HB := aM (Below.refl w.heap.size w)
 have H : ((impl_corner.f k l0).bind fun bt421 => ((impl_moved.f k l0 (wrap64 (-bt421.1)) (wrap64 (-bt421.2))).bind fun t424 => (some t424))) = some r := h
 clear h
 replace H := Option.bind_eq_some_iff.mp H
 obtain ⟨⟨t421, t422⟩, A20, H⟩ := H
 replace H : ((impl_moved.f k l0 (wrap64 (-t421)) (wrap64 (-t422))).bind fun t424 => (some t424)) = some r := H
 have A2 := aM A20
 clear A20
 replace H := Option.bind_eq_some_iff.mp H
 obtain ⟨t424, A30, H⟩ := H
 replace H : (some t424) = some r := H
 have A3 := aM A30
 clear A30
 obtain rfl := Option.some.inj H
 go_enter Tryz.func82, Tryz.ntmps82
 go_wp2_with (first | ((with_reducible refine gate_callee (f := 40) rfl ?_); refine goesL_ (some 5) rfl rfl Tryz.func40 (by kernel_rfl) rfl #[.slice A0 l0.length c0] rfl zm ?_; (with_reducible refine (impl_corner.calls k _ _ l0 t421 t422 _ ?side1 ?side2 A2.out).mono ?_); (case side1 => repeat (first | exact HR0.out | (with_reducible refine Kd.C_alloc ?_ _) | (with_reducible refine Kd.C_drewN ?_ _) | (with_reducible refine Kd.C_drew ?_))); (case side2 => exact HC0.out); rintro e w4 ⟨rfl, hb⟩; refine ⟨_, rfl, ?_⟩; have n0_ := aM (below_step zb hb); clear HB; have HB := n0_; clear n0_; (try clear hb); (try clear hb2); (try clear hk); (try clear hi)) | ((with_reducible refine gate_dst (N := 3) rfl ?_); refine zx 3 #[.int .i64 0, .int .i64 0] 58 ?_; intro gb423 hg w5 hbox hb; have n0_ := aM (below_step zb hb); have n1_ := aM (hbox); have n2_ := aM ((ze : w.heap.size ≤ gb423)); have n3_ := aM ((ze : w.heap.size ≤ gb423)); clear HB; have HB := n0_; have BK423 := n1_; have GW423 := n2_; have GE423 := n3_; clear n0_ n1_ n2_ n3_ hb hbox hg; have hcz6_0 : w5.cell? ⟨gb423, 0, none⟩ = some (.int .i64 0) := (blk_cell BK423.out 0).trans rfl; have hcz6_1 : w5.cell? ⟨gb423, 1, none⟩ = some (.int .i64 0) := (blk_cell BK423.out 1).trans rfl; have hfz6_0 := blk_frozen BK423.out 0; have hfz6_1 := blk_frozen BK423.out 1) | ((with_reducible refine gate_callee (f := 96) rfl ?_); refine goesL_ (some 13) rfl rfl Tryz.func96 (by kernel_rfl) rfl #[.slice A0 l0.length c0, .int .i64 (wrap64 (-t421)), .int .i64 (wrap64 (-t422))] rfl zm ?_; (with_reducible refine (impl_moved.calls k _ _ l0 (wrap64 (-t421)) (wrap64 (-t422)) t424 _ ?side1 ?side2 A3.out).mono ?_); (case side1 => exact Kd.C_below HR0.out (zs GE423.out)); (case side2 => exact HC0.out); rintro e w7 ⟨v425, rfl, ho0, hb⟩; refine ⟨_, rfl, ?_⟩; have n0_ := aM (Kd.R_lower (Kd.R_newB ho0 (g := gb423) (o := .cells #[.int .i64 t421, .int .i64 t422] 58 (0, 0)) (by (with_reducible repeat (first | refine blk_drewN ?_ _ | refine blk_drew ?_ | refine blk_alloc ?_ _)); refine blk_put (cs := #[.int .i64 t421, .int .i64 0]) ?_ 1 _ rfl; (with_reducible repeat (first | refine blk_drewN ?_ _ | refine blk_drew ?_ | refine blk_alloc ?_ _)); refine blk_put (cs := #[.int .i64 0, .int .i64 0]) ?_ 0 _ rfl; (with_reducible repeat (first | refine blk_drewN ?_ _ | refine blk_drew ?_ | refine blk_alloc ?_ _)); exact BK423.out)) (below_size (zs GE423.out))); have n1_ := aM (blk_below (g := gb423) (o := .cells #[.int .i64 t421, .int .i64 t422] 58 (0, 0)) (by (with_reducible repeat (first | refine blk_drewN ?_ _ | refine blk_drew ?_ | refine blk_alloc ?_ _)); refine blk_put (cs := #[.int .i64 t421, .int .i64 0]) ?_ 1 _ rfl; (with_reducible repeat (first | refine blk_drewN ?_ _ | refine blk_drew ?_ | refine blk_alloc ?_ _)); refine blk_put (cs := #[.int .i64 0, .int .i64 0]) ?_ 0 _ rfl; (with_reducible repeat (first | refine blk_drewN ?_ _ | refine blk_drew ?_ | refine blk_alloc ?_ _)); exact BK423.out) hb); have n2_ := aM (below_step (zs GE423.out) hb); clear BK423 HB; have HO426 := n0_; have BK423 := n1_; have HB := n2_; clear n0_ n1_ n2_; (try clear hb); (try clear hb2); (try clear hk); (try clear hi); (try clear ho0)))
 go_ret
 exact ⟨_, zw, zd0 HO426.out, zs GE423.out⟩
def impl_Cell_97.f (l0 : List S58) : Option (List S58) := if l0.length ≤ 1000000000000 then some l0 else none
set_option maxHeartbeats 4000000 in
theorem impl_Cell_97.calls (A0 : Option Addr) (c0 : Nat) (l0 : List S58) (r : List S58) (w : World) (hr0 : Kd.C k58 w A0 l0.length l0) (hc0 : l0.length ≤ c0) (h : impl_Cell_97.f l0 = some r) :
    Calls Tryz.prog 97 #[.slice A0 l0.length c0] w fun e w' => ∃ v0_ : Value, e = .returned (v0_) ∧ Kd.R k58 58 w' w.heap.size (fun _ => True) v0_ r ∧ Below w.heap.size w w' := by
  unfold impl_Cell_97.f at h
  by_cases hl : l0.length ≤ 1000000000000
  · rw [if_pos hl] at h
    obtain rfl := Option.some.inj h
    have q22 : ∀ (w : World) (a : Option Addr) (n c n' c' : Nat), (binOp .eql 28 (.slice a n c) (.slice none n' c')).run Tryz.prog w = .ok (.bool a.isNone) w := fun w a n c n' c' => Lib.run_eql_slice_nil w _ _ a n c n' c' Tryz.underlying28
    have u22 : ∀ w, Sem.run Tryz.prog (underlying 28) w = .ok (TypeDesc.slice 58) w := run_underlying Tryz.underlying28
    cases A0 with
    | none =>
      have h0 : l0 = [] := by
        refine List.length_eq_zero_iff.1 (Nat.eq_zero_of_not_pos fun hp => ?_)
        obtain ⟨ad, he, _⟩ := hr0.2.2 hp
        cases he
      subst h0
      clear hr0
      go_enter Tryz.func97, Tryz.ntmps97
      go_wp2
      go_ret
      exact ⟨_, rfl, Kd.R_nil _ _ _ _ _, Below.refl _ _⟩
    | some ad =>
      obtain ⟨inner, hreps, hcell⟩ := ReadsRow.inner_ hr0
      obtain ⟨i0, hi, hzz⟩ := Option.map_eq_some_iff.1 info58
      simp only [Prod.mk.injEq] at hzz
      obtain ⟨hz0, hz1, hz2⟩ := hzz
      have hil : inner.length = l0.length * 2 := hreps.1
      have h1 : ∀ u ∈ inner, u.oneCell' = true := by
        intro u hu
        obtain ⟨j, hj, e⟩ := List.getElem_of_mem hu
        have hjl : j / 2 < l0.length := by omega
        have hk := hreps.2 (j / 2) l0[j / 2] (List.getElem?_eq_getElem hjl)
        refine k58.K_one hk u ?_
        refine List.mem_of_getElem? (i := j % 2) ?_
        rw [List.getElem?_take_of_lt (show j % 2 < k58.sz from Nat.mod_lt _ (by decide)), List.getElem?_drop]
        rw [show j / 2 * k58.sz + j % 2 = j from by show j / 2 * 2 + j % 2 = j; omega, List.getElem?_eq_getElem hj, e]
      have A := aM hcell
      have HR := aM hreps
      have H1 := aM h1
      clear hr0 hcell hreps h1
      go_enter Tryz.func97, Tryz.ntmps97
      go_wp2_with (at_builtin; refine wpList_append_own _ rfl _ _ 28 rfl w.heap.size 58 i0 _ 2 16 Tryz.underlying28 hi hz0 hz1 hz2 rfl (by decide) _ _ _ rfl (World.ownsRow_made w #[] 0 (Nat.le_refl _) (Nat.zero_le _) (by simp)) ad l0.length c0 inner rfl ?qc1 ?qc2 ?qc3 ?qc4 ?qc5 ?qc6 ?_)
      (try case qc1 => exact hil)
      case qc2 =>
        intro j u hj
        exact Lib.cell?_alloc_some _ (A.out j u hj)
      case qc3 => exact H1.out
      case qc4 => simp only [maxLen]; omega
      case qc5 => omega
      (try case qc6 => simp)
      intro v' w1 hown hgrow hnil
      go_wp2
      go_ret
      have hB : Below w.heap.size w w1 := ((Below.refl _ w).alloc (Nat.le_refl _) _).grown hgrow (by simp) (by intro k hk; simp [Value.ownBlock] at hk; omega)
      refine ⟨v', rfl, ⟨fun _ _ => trivial, inner, (show w1.ownsRow w.heap.size 58 2 v' l0.length inner by simpa using hown), HR.out.1, fun j p hp => ?_⟩, hB⟩
      obtain ⟨c1, c2, e, e1, e2⟩ := HR.out.2 j p hp
      exact ⟨c1, c2, e, e1, e2⟩
  · rw [if_neg hl] at h
    exact absurd h (by simp)
def impl_sorted.f (l0 : List (S58)) : Option ((List (S58))) := (impl_Cell_97.f l0).bind fun t427 => ((impl_Cell_98__impl_compareCells.f t427).bind fun t430 => (some t430))
theorem impl_sorted.calls (A0 : Option Addr) (c0 : Nat) (l0 : List (S58)) (r : List (S58)) (w : World) (hr0 : Kd.C k58 w A0 l0.length l0) (hc0 : l0.length ≤ c0) (h : impl_sorted.f l0 = some r) :
  Calls Tryz.prog 83 #[.slice A0 l0.length c0] w fun e w' => ∃ v0_ : Value, e = .returned (v0_) ∧ Kd.R k58 58 w' w.heap.size (fun _ => True) v0_ r ∧ Below w.heap.size w w' := by
 have HR0 := aM hr0
 have HC0 := aM hc0
 clear hr0 hc0
 have HB := aM (Below.refl w.heap.size w)
 have H : ((impl_Cell_97.f l0).bind fun t427 => ((impl_Cell_98__impl_compareCells.f t427).bind fun t430 => (some t430))) = some r := h
 clear h
 replace H := Option.bind_eq_some_iff.mp H
 obtain ⟨t427, A20, H⟩ := H
 replace H : ((impl_Cell_98__impl_compareCells.f t427).bind fun t430 => (some t430)) = some r := H
 have A2 := aM A20
 clear A20
 replace H := Option.bind_eq_some_iff.mp H
 obtain ⟨t430, A30, H⟩ := H
 replace H : (some t430) = some r := H
 have A3 := aM A30
 clear A30
 obtain rfl := Option.some.inj H
 go_enter Tryz.func83, Tryz.ntmps83
 go_wp2_with (first | ((with_reducible refine gate_callee (f := 97) rfl ?_); refine goesL_ (some 5) rfl rfl Tryz.func97 (by kernel_rfl) rfl #[.slice A0 l0.length c0] rfl zm ?_; (with_reducible refine (impl_Cell_97.calls _ _ l0 t427 _ ?side1 ?side2 A2.out).mono ?_); (case side1 => repeat (first | exact HR0.out | (with_reducible refine Kd.C_alloc ?_ _) | (with_reducible refine Kd.C_drewN ?_ _) | (with_reducible refine Kd.C_drew ?_))); (case side2 => exact HC0.out); rintro e w4 ⟨v428, rfl, ho0, hb⟩; refine ⟨_, rfl, ?_⟩; have n0_ := aM (Kd.R_lower ho0 (below_size zb)); have n1_ := aM (below_step zb hb); clear HB; have HO429 := n0_; have HB := n1_; clear n0_ n1_; (try clear hb); (try clear hb2); (try clear hk); (try clear hi); (try clear ho0); obtain ⟨Ao5, co5, eo5⟩ := Kd.R_slice HO429.out; subst eo5) | ((with_reducible refine gate_callee (f := 98) rfl ?_); refine goesL_ (some 7) rfl rfl Tryz.func98 (by kernel_rfl) rfl #[.slice Ao5 t427.length co5, .func (.func 58) #[] #[]] rfl zm ?_; (with_reducible refine (impl_Cell_98__impl_compareCells.calls (fun k_ => some k_ = (.slice Ao5 t427.length co5 : Value).ownBlock) (.slice Ao5 t427.length co5) t427  t430 w _ ?side1 ?side2 A3.out).mono ?_); (case side1 => repeat (first | (with_reducible first | exact HB.out | apply below_alloc | apply pw_below_drewN | apply below_drew1) | exact HB.out)); (case side2 => exact Kd.R_tight rfl HO429.out); rintro e w6 ⟨rfl, hy0, hb, hkp⟩; refine ⟨_, rfl, ?_⟩; have n0_ := aM (Kd.R_reok rfl hy0 (fun k_ e_ => HO429.out.1 k_ e_)); have n1_ := aM (hb); clear HO429 HB; have HO429 := n0_; have HB := n1_; clear n0_ n1_; (try clear hb); (try clear hkp); (try clear hy0)))
 go_ret
 exact ⟨_, zw, mR_ HO429.out, zb⟩
end Go.Proofs.YtfdfdifjkaaeoaaGreat.F
end
section
namespace Go.Proofs.YtfdfdifjkaaeoaaGreat.F
open Go.RowKit Go.Proofs.YtfdfdifjkaaeoaaGreatW.PrintWords Go.Proofs.YtfdfdifjkaaeoaaGreatW.PrintLast Go.Proofs.YtfdfdifjkaaeoaaGreatW.PrintMore
attribute [local go_sem] max2_int min2_int max_two min_two max_three min_three max_four min_four
set_option linter.unusedVariables false
set_option linter.unusedSimpArgs false
def impl_form.l0 : Nat → Int → List (S58) → List (S58) → Int → Int → Option ((List (S58)))
 | 0, _, _, _, _, _ => none
 | k + 1, x1, x5, x11, x12, x13 => if x13 < x12 then (if 0 ≤ x13 then (if x13 < (x11.length : Int) then ((impl_turnCell.f k ((rd_T58 x11 x13).f0) ((rd_T58 x11 x13).f1) x1).bind fun bt436 => (if x5.length < 8796093022208 then (impl_form.l0 k x1 (x5 ++ [(⟨bt436.1, bt436.2⟩ : S58)]) x11 x12 (wrap64 (x13 + 1))) else (none))) else (none)) else (none)) else ((impl_sorted.f x5).bind fun t441 => ((impl_normal.f k t441).bind fun t444 => (some t444)))
def impl_form.f (k : Nat) (l0 : List (S58)) (a1 : Int) : Option ((List (S58))) := if 0 ≤ (l0.length : Int) then (if ((l0.length : Int) : Int).toNat ≤ 17592186044416 then (impl_form.l0 k a1 (([] : List (S58))) l0 (l0.length : Int) 0) else (none)) else (none)
theorem impl_form.calls (k : Nat) (A0 : Option Addr) (c0 : Nat) (l0 : List (S58)) (a1 : Int) (r : List (S58)) (w : World) (hr0 : Kd.C k58 w A0 l0.length l0) (hc0 : l0.length ≤ c0) (h : impl_form.f k l0 a1 = some r) :
  Calls Tryz.prog 73 #[.slice A0 l0.length c0, .int .i64 a1] w fun e w' => ∃ v0_ : Value, e = .returned (v0_) ∧ Kd.R k58 58 w' w.heap.size (fun _ => True) v0_ r ∧ Below w.heap.size w w' := by
 have hu58 := Tryz.underlying58
 have HR0 := aM hr0
 have HC0 := aM hc0
 clear hr0 hc0
 have HB := aM (Below.refl w.heap.size w)
 have H : (if 0 ≤ (l0.length : Int) then (if ((l0.length : Int) : Int).toNat ≤ 17592186044416 then (impl_form.l0 k a1 (([] : List (S58))) l0 (l0.length : Int) 0) else (none)) else (none)) = some r := h
 clear h
 by_cases c3 : 0 ≤ (l0.length : Int)
 rotate_left
 ·rw [if_neg c3] at H
  exact absurd H (by simp)
 rw [if_pos c3] at H
 have c3b0 := eq_true c3
 have c3b1 : decide (0 ≤ (l0.length : Int)) = true := decide_eq_true c3
 clear c3
 by_cases c4 : ((l0.length : Int) : Int).toNat ≤ 17592186044416
 rotate_left
 ·rw [if_neg c4] at H
  exact absurd H (by simp)
 rw [if_pos c4] at H
 have c4b0 := eq_true c4
 have c4b1 : decide (((l0.length : Int) : Int).toNat ≤ 17592186044416) = true := decide_eq_true c4
 clear c4
 obtain ⟨y431, hy431⟩ : ∃ y_ : List (S58), y_ = (([] : List (S58))) := ⟨_, rfl⟩
 replace H : (impl_form.l0 k a1 y431 l0 (l0.length : Int) 0) = some r := zy H hy431
 have Ny431 := aM hy431
 clear hy431
 have H' := aM H
 clear H
 go_enter Tryz.func73, Tryz.ntmps73
 go_wp2_with (first | ((with_reducible refine gate_dst (N := 10) rfl ?_); refine Kd.R_make0 k58 _ 58 rfl (N := 10) rfl 28 _ _ rfl (l0.length : Int) rfl rfl Tryz.underlying28 (.agg #[(.int .i64 0), (.int .i64 0)]) 16 info58 rfl (by decide) (by omega) z58 (ok := fun _ => True) (okp := fun _ => True) (k58_mkM _ _ _ z58 ) (fun _ hk => hk) trivial (of_decide_eq_true za) (Nat.le_trans (Nat.mul_le_mul_right _ (of_decide_eq_true za : (l0.length : Int).toNat ≤ 17592186044416)) (by omega)) (Below.refl _ _) (Nat.le_refl _) ?_; intro v432 w5 ho6 hb hg_ hnew_; clear hg_ hnew_; (first | rw [← Ny431.out] at ho6 | (simp only [Int.reduceToNat] at ho6; rw [← Ny431.out] at ho6)); have n0_ := aM (Kd.R_lower ho6 (below_size zb)); have n1_ := aM (below_step zb hb); clear HB; have HO433 := n0_; have HB := n1_; clear n0_ n1_; clear hb ho6))
 go_loopg [5, 13] k (fun kq v5 v13 w' => ∃ (x5_1 : List (S58)) (x13_1 : Int), v13 = .int .i64 x13_1 ∧ Aside0 (impl_form.l0 kq a1 x5_1 l0 (l0.length : Int) x13_1 = some r) ∧ Aside0 (kq ≤ k) ∧ Aside0 (Kd.R k58 58 w' w.heap.size (fun _ => True) v5 x5_1) ∧ Aside0 (Below w.heap.size w w'))
 case atStart => exact ⟨(y431), (0), zr, H', ⟨Nat.le_refl _⟩, ⟨mR_ HO433.out⟩, ⟨zb⟩⟩
 case round =>
  clear H'
  try clear p2
  try clear c3
  try clear c3b0
  try clear c3b1
  try clear c4
  try clear c4b0
  try clear c4b1
  obtain ⟨x5_1, x13_1, rfl, HA, HK1, HO_5, HB⟩ := hrel
  cases gk with
  | zero => exact absurd HA.out (by simp [impl_form.l0])
  | succ k1 =>
   have H := HA.out
   clear HA
   simp only [impl_form.l0] at H
   by_cases c7 : x13_1 < (l0.length : Int)
   rotate_left
   ·rw [if_neg c7] at H
    have c7b0 : decide (x13_1 < (l0.length : Int)) = false := decide_eq_false c7
    clear c7
    replace H := Option.bind_eq_some_iff.mp H
    obtain ⟨t441, A160, H⟩ := H
    replace H : ((impl_normal.f k1 t441).bind fun t444 => (some t444)) = some r := H
    have A16 := aM A160
    clear A160
    replace H := Option.bind_eq_some_iff.mp H
    obtain ⟨t444, A170, H⟩ := H
    replace H : (some t444) = some r := H
    have A17 := aM A170
    clear A170
    obtain rfl := Option.some.inj H
    obtain ⟨Ao18, co18, eo18⟩ := Kd.R_slice HO_5.out
    subst eo18
    go_wp2_with (first | ((with_reducible refine gate_callee (f := 83) rfl ?_); refine goesL_ (some 25) rfl rfl Tryz.func83 (by kernel_rfl) rfl #[.slice Ao18 x5_1.length co18] rfl zm ?_; (with_reducible refine (impl_sorted.calls _ _ x5_1 t441 _ ?side1 ?side2 A16.out).mono ?_); (case side1 => exact zc HO_5.out); (case side2 => exact (Kd.R_reads' HO_5.out).2.1); rintro e w19 ⟨v442, rfl, ho0, hb⟩; refine ⟨_, rfl, ?_⟩; have n0_ := aM (Kd.R_elder' (mR_ HO_5.out) (Kd.R_base ho0) hb); have n1_ := aM (Kd.R_lower (Kd.R_new' ho0 (Kd.R_lt (mR_ HO_5.out))) (below_size zb)); have n2_ := aM (below_step zb hb); clear HO_5 HB; have HO_5 := n0_; have HO443 := n1_; have HB := n2_; clear n0_ n1_ n2_; (try clear hb); (try clear hb2); (try clear hk); (try clear hi); (try clear ho0); obtain ⟨Ao20, co20, eo20⟩ := Kd.R_slice HO443.out; subst eo20) | ((with_reducible refine gate_callee (f := 82) rfl ?_); refine goesL_ (some 26) rfl rfl Tryz.func82 (by kernel_rfl) rfl #[.slice Ao20 t441.length co20] rfl zm ?_; (with_reducible refine (impl_normal.calls k1 _ _ t441 t444 _ ?side1 ?side2 A17.out).mono ?_); (case side1 => exact zc HO443.out); (case side2 => exact (Kd.R_reads' HO443.out).2.1); rintro e w21 ⟨v445, rfl, ho0, hb⟩; refine ⟨_, rfl, ?_⟩; have n0_ := aM (Kd.R_elder' (mR_ HO_5.out) (Kd.R_base ho0) hb); have n1_ := aM (Kd.R_elder' (mR_ HO443.out) (Kd.R_base ho0) hb); have n2_ := aM (Kd.R_lower (Kd.R_new' (Kd.R_new' ho0 (Kd.R_lt (mR_ HO_5.out))) (Kd.R_lt (mR_ HO443.out))) (below_size zb)); have n3_ := aM (below_step zb hb); clear HO_5 HO443 HB; have HO_5 := n0_; have HO443 := n1_; have HO446 := n2_; have HB := n3_; clear n0_ n1_ n2_ n3_; (try clear hb); (try clear hb2); (try clear hk); (try clear hi); (try clear ho0)))
    go_ret
    exact ⟨_, zw, zd0 HO446.out, zb⟩
   rw [if_pos c7] at H
   have c7b0 : decide (x13_1 < (l0.length : Int)) = true := decide_eq_true c7
   clear c7
   by_cases c8 : 0 ≤ x13_1
   rotate_left
   ·rw [if_neg c8] at H
    exact absurd H (by simp)
   rw [if_pos c8] at H
   have c8b0 : decide (0 ≤ x13_1) = true := decide_eq_true c8
   clear c8
   by_cases c9 : x13_1 < (l0.length : Int)
   rotate_left
   ·rw [if_neg c9] at H
    exact absurd H (by simp)
   rw [if_pos c9] at H
   have c9b0 : decide (x13_1 < (l0.length : Int)) = true := decide_eq_true c9
   clear c9
   replace H := Option.bind_eq_some_iff.mp H
   obtain ⟨⟨t436, t437⟩, A100, H⟩ := H
   replace H : (if x5_1.length < 8796093022208 then (impl_form.l0 k1 a1 (x5_1 ++ [(⟨t436, t437⟩ : S58)]) l0 (l0.length : Int) (wrap64 (x13_1 + 1))) else (none)) = some r := H
   have A10 := aM A100
   clear A100
   by_cases c11 : x5_1.length < 8796093022208
   rotate_left
   ·rw [if_neg c11] at H
    exact absurd H (by simp)
   rw [if_pos c11] at H
   have LMc11 := aM c11
   clear c11
   obtain ⟨y438, hy438⟩ : ∃ y_ : List (S58), y_ = (x5_1 ++ [(⟨t436, t437⟩ : S58)]) := ⟨_, rfl⟩
   replace H : (impl_form.l0 k1 a1 y438 l0 (l0.length : Int) (wrap64 (x13_1 + 1))) = some r := zy H hy438
   have Ny438 := aM hy438
   clear hy438
   have H' := aM H
   clear H
   have p434 : 0 ≤ (x13_1 : Int) := of_decide_eq_true za
   have q434 : x13_1 < (l0.length : Int) := of_decide_eq_true za
   obtain ⟨ad434, e434, hx434_0, hx434_1⟩ := at_T58 HR0.out x13_1 p434 q434
   cases e434
   replace hx434_0 := zk HB.out hx434_0
   replace hx434_1 := zk HB.out hx434_1
   replace p434 := eq_true p434
   replace q434 := eq_true q434
   go_wp2_with (first | ((with_reducible refine gate_dst (N := 7) rfl ?_); refine zx 7 #[.int .i64 0, .int .i64 0] 58 ?_; intro gb435 hg w12 hbox hb; have n0_ := aM (Kd.R_below (Kd.R_elderB (mR_ HO_5.out) gb435 (Nat.le_of_eq hg.symm)) hb); have n1_ := aM (below_step zb hb); have n2_ := aM (hbox); have n3_ := aM ((ze : w.heap.size ≤ gb435)); have n4_ := aM ((ze : w.heap.size ≤ gb435)); clear HO_5 HB; have HO_5 := n0_; have HB := n1_; have BK435 := n2_; have GW435 := n3_; have GE435 := n4_; clear n0_ n1_ n2_ n3_ n4_ hb hbox hg; have hcz13_0 : w12.cell? ⟨gb435, 0, none⟩ = some (.int .i64 0) := (blk_cell BK435.out 0).trans rfl; have hcz13_1 : w12.cell? ⟨gb435, 1, none⟩ = some (.int .i64 0) := (blk_cell BK435.out 1).trans rfl; have hfz13_0 := blk_frozen BK435.out 0; have hfz13_1 := blk_frozen BK435.out 1) | ((with_reducible refine gate_callee (f := 81) rfl ?_); refine goesL_ (some 20) rfl rfl Tryz.func81 (by kernel_rfl) rfl #[.agg #[.int .i64 ((rd_T58 l0 x13_1).f0), .int .i64 ((rd_T58 l0 x13_1).f1)], .int .i64 a1] rfl zm ?_; (with_reducible refine (impl_turnCell.calls k1 ((rd_T58 l0 x13_1).f0) ((rd_T58 l0 x13_1).f1) a1 t436 t437 _ A10.out).mono ?_); rintro e w14 ⟨rfl, hb⟩; refine ⟨_, rfl, ?_⟩; have n0_ := aM (Kd.R_below (by (with_reducible repeat (first | apply Kd.R_alloc | apply Kd.R_drewN | apply Kd.R_drew)); exact (Kd.R_mono (Kd.R_far (p := ⟨gb435, 1, none⟩) (Kd.R_far (p := ⟨gb435, 0, none⟩) (Kd.R_mono HO_5.out (fun k_ hk => (⟨hk, hk.2⟩ : _ ∧ k_ ≠ gb435))) (fun _ hk => hk.2) (.int .i64 ((rd_T58 l0 x13_1).f0))) (fun _ hk => hk.2) (.int .i64 ((rd_T58 l0 x13_1).f1))) (fun _ h_ => h_.1))) hb); have n1_ := aM (blk_below (g := gb435) (o := .cells #[.int .i64 ((rd_T58 l0 x13_1).f0), .int .i64 ((rd_T58 l0 x13_1).f1)] 58 (0, 0)) (by (with_reducible repeat (first | refine blk_drewN ?_ _ | refine blk_drew ?_ | refine blk_alloc ?_ _)); refine blk_put (cs := #[.int .i64 ((rd_T58 l0 x13_1).f0), .int .i64 0]) ?_ 1 _ rfl; (with_reducible repeat (first | refine blk_drewN ?_ _ | refine blk_drew ?_ | refine blk_alloc ?_ _)); refine blk_put (cs := #[.int .i64 0, .int .i64 0]) ?_ 0 _ rfl; (with_reducible repeat (first | refine blk_drewN ?_ _ | refine blk_drew ?_ | refine blk_alloc ?_ _)); exact BK435.out) hb); have n2_ := aM (below_step (zs GE435.out) hb); clear HO_5 BK435 HB; have HO_5 := n0_; have BK435 := n1_; have HB := n2_; clear n0_ n1_ n2_; (try clear hb); (try clear hb2); (try clear hk); (try clear hi)) | ((with_reducible refine gate_builtin (b := .append) (xs := #[.tmp 17, .tmp 21]) rfl ?_); at_builtin; refine Kd.R_append k58 (w0 := w) w.heap.size rfl (.tmp 17) (.tmp 21) 28 58 (.agg #[(.int .i64 0), (.int .i64 0)]) 16 rfl Tryz.underlying28 info58 rfl (by decide) (by omega) u5 x5_1 (⟨t436, t437⟩ : S58) [.int .i64 t436, .int .i64 t437] (fun k_ => k_ ≠ gb435) (fun _ => False) rfl rfl ?aP (fun _ hk => hk.elim) ?aF ?aO ?aB ?aS ?aL ?_; (case aP => exact k58_mkM _ _ _ (⟨t436, t437⟩ : S58)); (case aB => exact (zs GE435.out)); (case aF => exact (fun k_ hk => Kd.freshB (g := gb435) (o := .cells #[.int .i64 ((rd_T58 l0 x13_1).f0), .int .i64 ((rd_T58 l0 x13_1).f1)] 58 (0, 0)) (mB_ BK435.out) k_ hk)); (case aO => exact (zd1 HO_5.out)); (case aS => exact (below_size (zs GE435.out))); (case aL => have := LMc11.out; omega); intro v439 w15 ho hb hg hat; rw [← Ny438.out] at ho; have n0_ := aM (blk_grown (g := gb435) (o := .cells #[.int .i64 ((rd_T58 l0 x13_1).f0), .int .i64 ((rd_T58 l0 x13_1).f1)] 58 (0, 0)) (mB_ BK435.out) hg (Kd.R_away HO_5.out (fun _ hk => hk.2))); have n1_ := aM (hb); have n2_ := aM (ho); clear BK435 HB HO_5; have BK435 := n0_; have HB := n1_; have HO440 := n2_; clear n0_ n1_ n2_; clear ho hb hg hat))
   go_roundg k1
   case measure => have := HK1.out; omega
   case rel => exact ⟨(y438), (wrap64 (x13_1 + 1)), zr, H', ⟨by have := HK1.out; omega⟩, ⟨zd0 HO440.out⟩, ⟨zs GE435.out⟩⟩
def impl_forms.l0 : Nat → List (S58) → List (List (S58)) → Int → Int → Option ((List (List (S58))))
 | 0, _, _, _, _ => none
 | k + 1, x0, x5, x8, x9 => if x9 < x8 then ((impl_form.f k x0 x9).bind fun t450 => (if x5.length < 5864062014805 then (impl_forms.l0 k x0 (x5 ++ [t450]) x8 (wrap64 (x9 + 1))) else (none))) else (some x5)
def impl_forms.f (k : Nat) (l0 : List (S58)) (a1 : Int) : Option ((List (List (S58)))) := impl_forms.l0 k l0 (([] : List (List (S58)))) a1 0
theorem impl_forms.calls (k : Nat) (A0 : Option Addr) (c0 : Nat) (l0 : List (S58)) (a1 : Int) (r : List (List (S58))) (w : World) (hr0 : Kd.C k58 w A0 l0.length l0) (hc0 : l0.length ≤ c0) (h : impl_forms.f k l0 a1 = some r) :
  Calls Tryz.prog 62 #[.slice A0 l0.length c0, .int .i64 a1] w fun e w' => ∃ v0_ : Value, e = .returned (v0_) ∧ Kd.S (Kd.slice 58 k58) 28 w' w.heap.size (fun _ => True) v0_ r ∧ Below w.heap.size w w' := by
 have HR0 := aM hr0
 have HC0 := aM hc0
 clear hr0 hc0
 have HB := aM (Below.refl w.heap.size w)
 have H : (impl_forms.l0 k l0 (([] : List (List (S58)))) a1 0) = some r := h
 clear h
 obtain ⟨y447, hy447⟩ : ∃ y_ : List (List (S58)), y_ = (([] : List (List (S58)))) := ⟨_, rfl⟩
 replace H : (impl_forms.l0 k l0 y447 a1 0) = some r := zy H hy447
 have Ny447 := aM hy447
 clear hy447
 have H' := aM H
 clear H
 go_enter Tryz.func62, Tryz.ntmps62
 go_wp2_with (first | ((with_reducible refine gate_dst (N := 7) rfl ?_); refine Kd.S_lit (Kd.slice 58 k58) _ 28 ?hg (N := 7) ?hd (xs := ([] : List (List (S58)))) (inner := []) (ok := fun _ => True) (okp := fun _ => True) ?hr ?hp (fun _ hk => hk) trivial (Below.refl _ _) (Nat.le_refl _) (by simp) ?_; (case hd => rfl); (case hg => rfl); (case hr => first | (go_simp; done) | (go_simp; rfl)); (case hp => exact (Reps.none _ _)); intro v448 w3 ho4 hb hg_ hnew_; clear hg_ hnew_; (first | rw [← Ny447.out] at ho4 | (simp only [Int.reduceToNat] at ho4; rw [← Ny447.out] at ho4)); have n0_ := aM (Kd.S_lower ho4 (below_size zb)); have n1_ := aM (below_step zb hb); clear HB; have HO449 := n0_; have HB := n1_; clear n0_ n1_; clear hb ho4))
 go_loopg [5, 9] k (fun kq v5 v9 w' => ∃ (x5_1 : List (List (S58))) (x9_1 : Int), v9 = .int .i64 x9_1 ∧ Aside0 (impl_forms.l0 kq l0 x5_1 a1 x9_1 = some r) ∧ Aside0 (kq ≤ k) ∧ Aside0 (Kd.S (Kd.slice 58 k58) 28 w' w.heap.size (fun _ => True) v5 x5_1) ∧ Aside0 (Below w.heap.size w w'))
 case atStart => exact ⟨(y447), (0), zr, H', ⟨Nat.le_refl _⟩, ⟨mS_ HO449.out⟩, ⟨zb⟩⟩
 case round =>
  clear H'
  try clear p2
  obtain ⟨x5_1, x9_1, rfl, HA, HK1, HO_5, HB⟩ := hrel
  cases gk with
  | zero => exact absurd HA.out (by simp [impl_forms.l0])
  | succ k1 =>
   have H := HA.out
   clear HA
   simp only [impl_forms.l0] at H
   by_cases c5 : x9_1 < a1
   rotate_left
   ·rw [if_neg c5] at H
    have c5b0 : decide (x9_1 < a1) = false := decide_eq_false c5
    clear c5
    obtain rfl := Option.some.inj H
    go_wp2
    go_ret
    exact ⟨_, zw, mS_ HO_5.out, zb⟩
   rw [if_pos c5] at H
   have c5b0 : decide (x9_1 < a1) = true := decide_eq_true c5
   clear c5
   replace H := Option.bind_eq_some_iff.mp H
   obtain ⟨t450, A60, H⟩ := H
   replace H : (if x5_1.length < 5864062014805 then (impl_forms.l0 k1 l0 (x5_1 ++ [t450]) a1 (wrap64 (x9_1 + 1))) else (none)) = some r := H
   have A6 := aM A60
   clear A60
   by_cases c7 : x5_1.length < 5864062014805
   rotate_left
   ·rw [if_neg c7] at H
    exact absurd H (by simp)
   rw [if_pos c7] at H
   have LMc7 := aM c7
   clear c7
   obtain ⟨y453, hy453⟩ : ∃ y_ : List (List (S58)), y_ = (x5_1 ++ [t450]) := ⟨_, rfl⟩
   replace H : (impl_forms.l0 k1 l0 y453 a1 (wrap64 (x9_1 + 1))) = some r := zy H hy453
   have Ny453 := aM hy453
   clear hy453
   have H' := aM H
   clear H
   go_wp2_with (first | ((with_reducible refine gate_callee (f := 73) rfl ?_); refine goesL_ (some 15) rfl rfl Tryz.func73 (by kernel_rfl) rfl #[.slice A0 l0.length c0, .int .i64 x9_1] rfl zm ?_; (with_reducible refine (impl_form.calls k1 _ _ l0 x9_1 t450 _ ?side1 ?side2 A6.out).mono ?_); (case side1 => repeat (first | exact (Kd.C_below HR0.out HB.out) | (with_reducible refine Kd.C_alloc ?_ _) | (with_reducible refine Kd.C_drewN ?_ _) | (with_reducible refine Kd.C_drew ?_))); (case side2 => exact HC0.out); rintro e w8 ⟨v451, rfl, ho0, hb⟩; refine ⟨_, rfl, ?_⟩; have n0_ := aM (Kd.S_elder' (mS_ HO_5.out) (Kd.R_base ho0) hb); have n1_ := aM (Kd.R_lower ho0 (below_size zb)); have n2_ := aM (below_step zb hb); clear HO_5 HB; have HO_5 := n0_; have HO452 := n1_; have HB := n2_; clear n0_ n1_ n2_; (try clear hb); (try clear hb2); (try clear hk); (try clear hi); (try clear ho0); obtain ⟨Ao10, co10, eo10⟩ := Kd.R_slice HO452.out; subst eo10) | ((with_reducible refine gate_builtin (b := .append) (xs := #[.tmp 12, .tmp 16]) rfl ?_); at_builtin; refine Kd.S_append (Kd.slice 58 k58) (w0 := w) w.heap.size rfl (.tmp 12) (.tmp 16) 54 28 (.slice none 0 0) 24 rfl Tryz.underlying54 info28 rfl (by decide) (by omega) u5 x5_1 t450 [.slice Ao10 t450.length co10] (fun _ => True) (fun k_ => some k_ = (.slice Ao10 t450.length co10 : Value).ownBlock) rfl rfl ?aP (fun k_ hk_ => ((Kd.R_mono (ok' := fun k_ => ((fun _ => True)) k_ ∧ some k_ ≠ (u5 : Value).ownBlock) (Kd.R_apart' (HO452.out) (Kd.S_typed HO_5.out) (by decide)) (fun k_ hk => ⟨trivial, hk.2⟩))).1 k_ hk_.symm) ?aF ?aO ?aB ?aS ?aL ?_; (case aP => exact Kd.M_row (Kd.R_mono (Kd.R_tight rfl (Kd.R_mono (ok' := fun k_ => ((fun _ => True)) k_ ∧ some k_ ≠ (u5 : Value).ownBlock) (Kd.R_apart' (HO452.out) (Kd.S_typed HO_5.out) (by decide)) (fun k_ hk => ⟨trivial, hk.2⟩))) (fun _ h_ => h_))); (case aB => exact zb); (case aF => exact (fun _ _ => trivial)); (case aO => exact (by (with_reducible repeat (first | apply Kd.S_alloc | apply Kd.S_drewN | apply Kd.S_drew)); exact Kd.S_mono HO_5.out (fun k_ hk => ⟨trivial, fun e_ => hk.2 e_⟩))); (case aS => exact (below_size zb)); (case aL => have := LMc7.out; omega); intro v454 w9 ho hb hg hat; rw [← Ny453.out] at ho; have n0_ := aM (hb); have n1_ := aM (ho); clear HB HO_5 HO452; have HB := n0_; have HO455 := n1_; clear n0_ n1_; clear ho hb hg hat))
   go_roundg k1
   case measure => have := HK1.out; omega
   case rel => exact ⟨(y453), (wrap64 (x9_1 + 1)), zr, H', ⟨by have := HK1.out; omega⟩, ⟨mS_ HO455.out⟩, ⟨zb⟩⟩
def impl_formsOf.f (k : Nat) (l0_0 : List (S58)) (a0_1 : Int) (a0_2 : Bool) : Option ((List (List (S58)))) := if a0_2 = true then ((impl_forms.f k l0_0 8).bind fun t457 => ((impl_tidyShapes.f t457).bind fun t460 => (some t460))) else ((impl_forms.f k l0_0 4).bind fun t463 => ((impl_tidyShapes.f t463).bind fun t466 => (some t466)))
theorem impl_formsOf.calls (k : Nat) (A0_0 : Option Addr) (c0_0 : Nat) (l0_0 : List (S58)) (a0_1 : Int) (a0_2 : Bool) (r : List (List (S58))) (w : World) (hr0_0 : Kd.C k58 w A0_0 l0_0.length l0_0) (hc0_0 : l0_0.length ≤ c0_0) (h : impl_formsOf.f k l0_0 a0_1 a0_2 = some r) :
  Calls Tryz.prog 45 #[.agg #[.slice A0_0 l0_0.length c0_0, .int .i64 a0_1, .bool a0_2]] w fun e w' => ∃ v0_ : Value, e = .returned (v0_) ∧ Kd.S (Kd.slice 58 k58) 28 w' w.heap.size (fun _ => True) v0_ r ∧ Below w.heap.size w w' := by
 have hu43 := Tryz.underlying43
 have HR0_0 := aM hr0_0
 have HC0_0 := aM hc0_0
 clear hr0_0 hc0_0
 have HB := aM (Below.refl w.heap.size w)
 have H : (if a0_2 = true then ((impl_forms.f k l0_0 8).bind fun t457 => ((impl_tidyShapes.f t457).bind fun t460 => (some t460))) else ((impl_forms.f k l0_0 4).bind fun t463 => ((impl_tidyShapes.f t463).bind fun t466 => (some t466)))) = some r := h
 clear h
 by_cases c2 : a0_2 = true
 ·subst c2
  have H1 : ((impl_forms.f k l0_0 8).bind fun t457 => ((impl_tidyShapes.f t457).bind fun t460 => (some t460))) = some r := by rw [if_pos rfl] at H; exact H
  clear H
  have H := H1
  clear H1
  replace H := Option.bind_eq_some_iff.mp H
  obtain ⟨t457, A30, H⟩ := H
  replace H : ((impl_tidyShapes.f t457).bind fun t460 => (some t460)) = some r := H
  have A3 := aM A30
  clear A30
  replace H := Option.bind_eq_some_iff.mp H
  obtain ⟨t460, A40, H⟩ := H
  replace H : (some t460) = some r := H
  have A4 := aM A40
  clear A40
  obtain rfl := Option.some.inj H
  go_enter Tryz.func45, Tryz.ntmps45
  go_wp2_with (first | ((with_reducible refine gate_dst (N := 1) rfl ?_); refine zx 1 #[.slice A0_0 l0_0.length c0_0, .int .i64 a0_1, .bool true] 43 ?_; intro gb456 hg w5 hbox hb; have n0_ := aM (below_step zb hb); have n1_ := aM (hbox); have n2_ := aM ((ze : w.heap.size ≤ gb456)); have n3_ := aM ((ze : w.heap.size ≤ gb456)); clear HB; have HB := n0_; have BK456 := n1_; have GW456 := n2_; have GE456 := n3_; clear n0_ n1_ n2_ n3_ hb hbox hg; have hcz6_0 : w5.cell? ⟨gb456, 0, none⟩ = some (.slice A0_0 l0_0.length c0_0) := (blk_cell BK456.out 0).trans rfl; have hcz6_1 : w5.cell? ⟨gb456, 1, none⟩ = some (.int .i64 a0_1) := (blk_cell BK456.out 1).trans rfl; have hcz6_2 : w5.cell? ⟨gb456, 2, none⟩ = some (.bool true) := (blk_cell BK456.out 2).trans rfl; have hfz6_0 := blk_frozen BK456.out 0; have hfz6_1 := blk_frozen BK456.out 1; have hfz6_2 := blk_frozen BK456.out 2) | ((with_reducible refine gate_callee (f := 62) rfl ?_); refine goesL_ (some 9) rfl rfl Tryz.func62 (by kernel_rfl) rfl #[.slice A0_0 l0_0.length c0_0, .int .i64 8] rfl zm ?_; (with_reducible refine (impl_forms.calls k _ _ l0_0 8 t457 _ ?side1 ?side2 A3.out).mono ?_); (case side1 => repeat (first | exact (Kd.C_below HR0_0.out HB.out) | (with_reducible refine Kd.C_alloc ?_ _) | (with_reducible refine Kd.C_drewN ?_ _) | (with_reducible refine Kd.C_drew ?_))); (case side2 => exact HC0_0.out); rintro e w7 ⟨v458, rfl, ho0, hb⟩; refine ⟨_, rfl, ?_⟩; have n0_ := aM (Kd.S_lower ho0 (below_size (zs GE456.out))); have n1_ := aM (blk_below (g := gb456) (o := .cells #[.slice A0_0 l0_0.length c0_0, .int .i64 a0_1, .bool true] 43 (0, 0)) (mB_ BK456.out) hb); have n2_ := aM (below_step (zs GE456.out) hb); clear BK456 HB; have HO459 := n0_; have BK456 := n1_; have HB := n2_; clear n0_ n1_ n2_; (try clear hb); (try clear hb2); (try clear hk); (try clear hi); (try clear ho0); obtain ⟨Ao8, co8, eo8⟩ := Kd.S_slice HO459.out; subst eo8) | ((with_reducible refine gate_callee (f := 61) rfl ?_); refine goesL_ (some 10) rfl rfl Tryz.func61 (by kernel_rfl) rfl #[.slice Ao8 t457.length co8] rfl zm ?_; (with_reducible refine (impl_tidyShapes.calls (fun k_ => True) (.slice Ao8 t457.length co8) t457 t460 w _ ?side1 ?side2 A4.out).mono ?_); (case side1 => repeat (first | (with_reducible first | exact HB.out | apply below_alloc | apply pw_below_drewN | apply below_drew1 | refine below_set ?_ GE456.out) | exact HB.out)); (case side2 => exact HO459.out); rintro e w9 ⟨v461, rfl, ho0, hb, hkp⟩; refine ⟨_, rfl, ?_⟩; have n0_ := aM (blk_kept (mB_ BK456.out) hkp (fun hs_ => (fun e_ => (Kd.S_ne HO459.out BK456.out (by decide)) e_) hs_)); have n1_ := aM (Kd.S_mono (ok' := fun k_ => True) ho0 (fun k_ hk_ => trivial)); have n2_ := aM (hb); clear BK456 HB HO459; have BK456 := n0_; have HO462 := n1_; have HB := n2_; clear n0_ n1_ n2_; (try clear hb); (try clear hkp); (try clear ho0)))
  go_ret
  exact ⟨_, zw, mS_ HO462.out, zs GE456.out⟩
 replace c2 := Bool.eq_false_iff.mpr c2
 subst c2
 have H1 : ((impl_forms.f k l0_0 4).bind fun t463 => ((impl_tidyShapes.f t463).bind fun t466 => (some t466))) = some r := by rw [if_neg (show ¬ (false = true) by decide)] at H; exact H
 clear H
 have H := H1
 clear H1
 replace H := Option.bind_eq_some_iff.mp H
 obtain ⟨t463, A100, H⟩ := H
 replace H : ((impl_tidyShapes.f t463).bind fun t466 => (some t466)) = some r := H
 have A10 := aM A100
 clear A100
 replace H := Option.bind_eq_some_iff.mp H
 obtain ⟨t466, A110, H⟩ := H
 replace H : (some t466) = some r := H
 have A11 := aM A110
 clear A110
 obtain rfl := Option.some.inj H
 go_enter Tryz.func45, Tryz.ntmps45
 go_wp2_with (first | ((with_reducible refine gate_dst (N := 1) rfl ?_); refine zx 1 #[.slice A0_0 l0_0.length c0_0, .int .i64 a0_1, .bool false] 43 ?_; intro gb456 hg w12 hbox hb; have n0_ := aM (below_step zb hb); have n1_ := aM (hbox); have n2_ := aM ((ze : w.heap.size ≤ gb456)); have n3_ := aM ((ze : w.heap.size ≤ gb456)); clear HB; have HB := n0_; have BK456 := n1_; have GW456 := n2_; have GE456 := n3_; clear n0_ n1_ n2_ n3_ hb hbox hg; have hcz13_0 : w12.cell? ⟨gb456, 0, none⟩ = some (.slice A0_0 l0_0.length c0_0) := (blk_cell BK456.out 0).trans rfl; have hcz13_1 : w12.cell? ⟨gb456, 1, none⟩ = some (.int .i64 a0_1) := (blk_cell BK456.out 1).trans rfl; have hcz13_2 : w12.cell? ⟨gb456, 2, none⟩ = some (.bool false) := (blk_cell BK456.out 2).trans rfl; have hfz13_0 := blk_frozen BK456.out 0; have hfz13_1 := blk_frozen BK456.out 1; have hfz13_2 := blk_frozen BK456.out 2) | ((with_reducible refine gate_callee (f := 62) rfl ?_); refine goesL_ (some 9) rfl rfl Tryz.func62 (by kernel_rfl) rfl #[.slice A0_0 l0_0.length c0_0, .int .i64 4] rfl zm ?_; (with_reducible refine (impl_forms.calls k _ _ l0_0 4 t463 _ ?side1 ?side2 A10.out).mono ?_); (case side1 => repeat (first | exact (Kd.C_below HR0_0.out HB.out) | (with_reducible refine Kd.C_alloc ?_ _) | (with_reducible refine Kd.C_drewN ?_ _) | (with_reducible refine Kd.C_drew ?_))); (case side2 => exact HC0_0.out); rintro e w14 ⟨v464, rfl, ho0, hb⟩; refine ⟨_, rfl, ?_⟩; have n0_ := aM (Kd.S_lower ho0 (below_size (zs GE456.out))); have n1_ := aM (blk_below (g := gb456) (o := .cells #[.slice A0_0 l0_0.length c0_0, .int .i64 a0_1, .bool false] 43 (0, 0)) (mB_ BK456.out) hb); have n2_ := aM (below_step (zs GE456.out) hb); clear BK456 HB; have HO465 := n0_; have BK456 := n1_; have HB := n2_; clear n0_ n1_ n2_; (try clear hb); (try clear hb2); (try clear hk); (try clear hi); (try clear ho0); obtain ⟨Ao15, co15, eo15⟩ := Kd.S_slice HO465.out; subst eo15) | ((with_reducible refine gate_callee (f := 61) rfl ?_); refine goesL_ (some 10) rfl rfl Tryz.func61 (by kernel_rfl) rfl #[.slice Ao15 t463.length co15] rfl zm ?_; (with_reducible refine (impl_tidyShapes.calls (fun k_ => True) (.slice Ao15 t463.length co15) t463 t466 w _ ?side1 ?side2 A11.out).mono ?_); (case side1 => repeat (first | (with_reducible first | exact HB.out | apply below_alloc | apply pw_below_drewN | apply below_drew1 | refine below_set ?_ GE456.out) | exact HB.out)); (case side2 => exact HO465.out); rintro e w16 ⟨v467, rfl, ho0, hb, hkp⟩; refine ⟨_, rfl, ?_⟩; have n0_ := aM (blk_kept (mB_ BK456.out) hkp (fun hs_ => (fun e_ => (Kd.S_ne HO465.out BK456.out (by decide)) e_) hs_)); have n1_ := aM (Kd.S_mono (ok' := fun k_ => True) ho0 (fun k_ hk_ => trivial)); have n2_ := aM (hb); clear BK456 HB HO465; have BK456 := n0_; have HO468 := n1_; have HB := n2_; clear n0_ n1_ n2_; (try clear hb); (try clear hkp); (try clear ho0)))
 go_ret
 exact ⟨_, zw, mS_ HO468.out, zs GE456.out⟩
def fL (p : List S58 → Bool) : List (List S58) → Int → Int
  | [], _ => -1
  | a :: r, i => if p a then i else fL p r (i + 1)
theorem fL_any (p : List S58 → Bool) : ∀ (l : List (List S58)) (i : Int), 0 ≤ i → decide (0 ≤ fL p l i) = l.any p
  | [], i, h => by simp [fL]
  | a :: r, i, h => by
    unfold fL
    cases hp : p a with
    | true => simp [hp, h]
    | false => simp [hp, fL_any p r (i + 1) (by omega)]
theorem fL_drop (p : List S58 → Bool) (l : List (List S58)) (j : Nat) (hj : j < l.length) : fL p (l.drop j) (j : Int) = if p l[j] = true then (j : Int) else fL p (l.drop (j + 1)) ((j + 1 : Nat) : Int) := by
  rw [← List.getElem_cons_drop hj, fL]
  rfl
theorem at_LG {w : World} {A : Option Addr} {n : Nat} {xs : List (List S58)} (h : Kd.C (Kd.slice 58 k58) w A n xs) (i : Nat) (h1 : i < n) (hx : i < xs.length) : ∃ ad A0 c0, A = some ad ∧ w.cell? (ad.add i) = some (.slice A0 xs[i].length c0) ∧ xs[i].length ≤ c0 ∧ k58.C w A0 xs[i].length xs[i] := by
  obtain ⟨ad, c, e, _, hK, hc0⟩ := Kd.C_get h ([] : List S58) (i : Int) (by omega) (by omega)
  have e0 : xs.getD (i : Int).toNat [] = xs[i] := by rw [Int.toNat_natCast, List.getD_eq_getElem?_getD, List.getElem?_eq_getElem hx]; rfl
  rw [e0] at hK
  have hc : ∀ j u, c[j]? = some u → w.cell? (ad.add ((i : Int).toNat * 1 + j)) = some u := hc0
  obtain ⟨A0, c0, rfl, l0, g0⟩ := hK
  exact ⟨ad, A0, c0, e, by have hq := hc 0 _ rfl; rwa [Nat.mul_one, Nat.add_zero, Int.toNat_natCast] at hq, l0, g0⟩
set_option maxHeartbeats 4000000 in
theorem idxL_calls (g : Nat) (lb : Array Value) (p : List S58 → Bool) (Inv : World → Prop) (eg : ∀ args w, (callFunc g args).run Tryz.prog w = .ok (.enter g args) w) (A0 : Option Addr) (c0 : Nat) (l0 : List (List S58)) (w : World) (hw : Inv w)
    (hr0 : ∀ w1, Inv w1 → Kd.C (Kd.slice 58 k58) w1 A0 l0.length l0) (hd : ∀ w1 n, Inv w1 → Inv (w1.drewN n)) (hn : l0.length ≤ 1000000000000)
    (hp : ∀ x ∈ l0, ∀ w1 A c, Inv w1 → x.length ≤ c → k58.C w1 A x.length x → Calls Tryz.prog g (#[.slice A x.length c] ++ lb) w1 fun e w' => e = .returned (.bool (p x)) ∧ Inv w') :
    Calls Tryz.prog 63 #[.slice A0 l0.length c0, .func (.func g) #[] lb] w fun e w' => e = .returned (.int .i64 (fL p l0 0)) ∧ Inv w' := by
  have HR := aM hr0
  have HP := aM hp
  have HN := aM hn
  have HD := aM hd
  have HI := aM hw
  clear hr0 hp hn hd hw
  go_enter Tryz.func63, Tryz.ntmps63
  go_wp2
  go_loopg [5, 8] l0.length (fun gg _ s8 wr => ∃ kk : Nat, s8 = .int .i64 kk ∧ Aside0 (Inv wr) ∧ Aside0 (kk ≤ l0.length ∧ l0.length - kk ≤ gg ∧ fL p l0 0 = fL p (l0.drop kk) kk))
  case atStart => exact ⟨0, rfl, ⟨by first | exact HI.out | exact HD.out _ _ HI.out⟩, ⟨Nat.zero_le _, by omega, rfl⟩⟩
  case round =>
    obtain ⟨kk, rfl, HI, HK⟩ := hrel
    by_cases hlt : kk < l0.length
    · have hltz : decide ((kk : Int) < (l0.length : Int)) = true := decide_eq_true (by omega)
      have HC := aM (HP.out _ (List.getElem_mem hlt))
      have HDr := aM (fL_drop p l0 kk hlt)
      have p9 : 0 ≤ (kk : Int) := by omega
      have q9 : (kk : Int) < (l0.length : Int) := by omega
      have hCw := HR.out _ HI.out
      obtain ⟨ad9, A9, c9, e9, hx9, hl9, hC9⟩ := at_LG hCw kk hlt hlt
      cases e9
      have HL9 := aM hl9
      have HC9 := aM hC9
      clear hCw hl9 hC9
      replace p9 := eq_true p9
      replace q9 := eq_true q9
      have ht9 : (kk : Int).toNat = kk := Int.toNat_natCast kk
      cases hq : p l0[kk] with
      | true =>
        have HQ := aM hq
        have HCC := HC.out
        simp only [hq] at HCC
        have HX := aM HCC
        clear HCC hq
        go_wp2_with fail
        refine (HX.out _ _ _ (by first | exact HI.out | exact HD.out _ _ HI.out) HL9.out (by first | exact HC9.out | exact Kd.C_drewN HC9.out _)).mono ?_
        rintro e w' ⟨rfl, hI⟩
        have HI2 := aM hI
        clear hI
        go_wp2
        go_ret
        refine ⟨?_, by first | exact HI2.out | exact HD.out _ _ HI2.out⟩
        rw [HK.out.2.2, HDr.out, if_pos HQ.out]
        rfl
      | false =>
        have HQ := aM hq
        have HCC := HC.out
        simp only [hq] at HCC
        have HX := aM HCC
        clear HCC hq
        go_wp2_with fail
        refine (HX.out _ _ _ (by first | exact HI.out | exact HD.out _ _ HI.out) HL9.out (by first | exact HC9.out | exact Kd.C_drewN HC9.out _)).mono ?_
        rintro e w' ⟨rfl, hI⟩
        have HI2 := aM hI
        clear hI
        go_wp2
        go_roundg (l0.length - (kk + 1))
        case measure => have := HK.out; omega
        case rel =>
          refine ⟨kk + 1, ?_, ⟨by first | exact HI2.out | exact HD.out _ _ HI2.out⟩, ⟨by omega, by omega, ?_⟩⟩
          · have := HN.out
            rw [show wrap64 ((kk : Int) + 1) = ((kk + 1 : Nat) : Int) from by unfold wrap64; omega]
          · rw [HK.out.2.2, HDr.out, if_neg (by rw [HQ.out]; simp)]
    · have hltz : decide ((kk : Int) < (l0.length : Int)) = false := decide_eq_false (by omega)
      have e : kk = l0.length := by have := HK.out.1; omega
      go_wp2
      go_ret
      refine ⟨?_, by first | exact HI.out | exact HD.out _ _ HI.out⟩
      rw [HK.out.2.2, e, List.drop_length]; rfl
set_option maxHeartbeats 4000000 in
theorem contL_calls (g : Nat) (lb : Array Value) (p : List S58 → Bool) (Inv : World → Prop) (eg : ∀ args w, (callFunc g args).run Tryz.prog w = .ok (.enter g args) w) (A0 : Option Addr) (c0 : Nat) (l0 : List (List S58)) (w : World) (hw : Inv w)
    (hr0 : ∀ w1, Inv w1 → Kd.C (Kd.slice 58 k58) w1 A0 l0.length l0) (hd : ∀ w1 n, Inv w1 → Inv (w1.drewN n)) (hn : l0.length ≤ 1000000000000)
    (hp : ∀ x ∈ l0, ∀ w1 A c, Inv w1 → x.length ≤ c → k58.C w1 A x.length x → Calls Tryz.prog g (#[.slice A x.length c] ++ lb) w1 fun e w' => e = .returned (.bool (p x)) ∧ Inv w') :
    Calls Tryz.prog 46 #[.slice A0 l0.length c0, .func (.func g) #[] lb] w fun e w' => e = .returned (.bool (l0.any p)) ∧ Inv w' := by
  have HX := aM (fun w1 h1 => idxL_calls g lb p Inv eg A0 c0 l0 w1 h1 hr0 hd hn hp)
  have HA := aM (fL_any p l0 0 (Int.le_refl _))
  have HD := aM hd
  have HI := aM hw
  clear hr0 hp hn hd hw
  generalize fL p l0 0 = r at HX HA
  go_enter Tryz.func46, Tryz.ntmps46
  go_wp2_with fail
  refine (HX.out _ (by first | exact HI.out | exact HD.out _ _ HI.out)).mono ?_
  rintro e w' ⟨rfl, hI⟩
  have HI2 := aM hI
  clear hI
  go_wp2
  go_ret
  exact ⟨by rw [← HA.out]; rfl, by first | exact HI2.out | exact HD.out _ _ HI2.out⟩
def impl_alike.f (k : Nat) (l0_0 : List S58) (a0_1 : Int) (a0_2 : Bool) (l1_0 : List S58) (a1_1 : Int) (a1_2 : Bool) : Option (Bool) :=
  (impl_formsOf.f k l1_0 a1_1 a1_2).bind fun L => (impl_formsOf.f k l0_0 a0_1 a0_2).bind fun M => if (L.length ≤ 1000000000000 ∧ M.length ≤ 1000000000000) ∧ (M.all fun a => L.all fun b => (impl_Cell_49.f k a b).isSome) = true then some (M.any fun a => L.any fun b => impl_Cell_49.f k a b == some true) else none
theorem predE (k : Nat) (B : Nat) (A1 : Option Addr) (c1 : Nat) (a : List S58) (W : World) (hx : W.heap[B]? = some (.cells #[.slice A1 a.length c1] 28 (0, 0))) (hC1 : Kd.C k58 W A1 a.length a) (hc1 : a.length ≤ c1) (A0 : Option Addr) (c0 : Nat) (b : List S58) (hC0 : Kd.C k58 W A0 b.length b) (hc0 : b.length ≤ c0) (r : Bool) (h : impl_Cell_49.f k a b = some r) :
    Calls Tryz.prog 48 #[.slice A0 b.length c0, .pointer (some ⟨B, 0, none⟩)] W fun e w' => e = .returned (.bool r) ∧ ∃ q, w' = W.drewN q := by
  have HC1 := aM hC1
  have HC0 := aM hC0
  have cc0 : W.cell? ⟨B, 0, none⟩ = some (.slice A1 a.length c1) := by simp [World.cell?, hx]
  have HH := aM h
  have HL1 := aM hc1
  have HL0 := aM hc0
  clear hx hC1 hC0 h hc1 hc0
  go_enter Tryz.func48, Tryz.ntmps48
  go_wp2_with (go_at_call 49; refine (impl_Cell_49.calls k A1 c1 a A0 c0 b r _ HC1.out HL1.out HC0.out HL0.out HH.out).mono ?_; rintro e w' ⟨rfl, ⟨q, rfl⟩⟩)
  go_ret
  exact ⟨rfl, q, rfl⟩
set_option maxHeartbeats 4000000 in
theorem predL (k : Nat) (B : Nat) (A1 : Option Addr) (c1 : Nat) (L : List (List S58)) (W : World) (hx : W.heap[B]? = some (.cells #[.slice A1 L.length c1] 54 (0, 0))) (hC1 : Kd.C (Kd.slice 58 k58) W A1 L.length L) (hL : L.length ≤ 1000000000000) (A0 : Option Addr) (c0 : Nat) (a : List S58) (hC0 : Kd.C k58 W A0 a.length a) (hc0 : a.length ≤ c0) (h : (L.all fun b => (impl_Cell_49.f k a b).isSome) = true) :
    Calls Tryz.prog 47 #[.slice A0 a.length c0, .pointer (some ⟨B, 0, none⟩)] W fun e w' => e = .returned (.bool (L.any fun b => impl_Cell_49.f k a b == some true)) ∧ Below W.heap.size W w' := by
  have hb1 : Below W.heap.size W (W.alloc (.cells #[.slice A0 a.length c0] 28 (0, 0))) := below_alloc (Below.refl _ _) _
  have hblk := blk_new W (.cells #[.slice A0 a.length c0] 28 (0, 0))
  have eg : ∀ args w, (callFunc 48 args).run Tryz.prog w = .ok (.enter 48 args) w := enters_ Tryz.func48 (by kernel_rfl) rfl
  have hcc : (W.alloc (.cells #[.slice A0 a.length c0] 28 (0, 0))).cell? ⟨B, 0, none⟩ = some (.slice A1 L.length c1) := by
    have : W.cell? ⟨B, 0, none⟩ = some (.slice A1 L.length c1) := by simp [World.cell?, hx]
    exact pw_cell_below hb1 this
  have hcon := contL_calls 48 #[.pointer (some ⟨W.heap.size, 0, none⟩)] (fun b => impl_Cell_49.f k a b == some true) (fun w1 => ∃ q, w1 = (W.alloc (.cells #[.slice A0 a.length c0] 28 (0, 0))).drewN q) eg A1 c1 L (W.alloc (.cells #[.slice A0 a.length c0] 28 (0, 0))) ⟨0, rfl⟩
    (by rintro _ ⟨q, rfl⟩; exact Kd.C_drewN (Kd.C_below hC1 hb1) q) (by rintro _ n ⟨q, rfl⟩; exact ⟨q + n, World.drewN_drewN _ _ _⟩) hL (by
      rintro b hb _ A c ⟨q, rfl⟩ hc hC
      obtain ⟨r, hr⟩ := Option.isSome_iff_exists.1 (List.all_eq_true.1 h b hb)
      have e : (impl_Cell_49.f k a b == some true) = r := by rw [hr]; cases r <;> rfl
      show Calls Tryz.prog 48 _ _ fun e w' => e = .returned (.bool (impl_Cell_49.f k a b == some true)) ∧ _
      rw [e]
      refine (predE k W.heap.size A0 c0 a _ (blk_drewN hblk q) (Kd.C_drewN (Kd.C_below hC0 hb1) q) hc0 A c b hC hc r hr).mono ?_
      rintro e w' ⟨rfl, n, rfl⟩
      exact ⟨rfl, q + n, World.drewN_drewN _ _ _⟩)
  have HX := aM hcon
  have HB1 := aM hb1
  have hcw : W.cell? ⟨B, 0, none⟩ = some (.slice A1 L.length c1) := by simp [World.cell?, hx]
  clear hcon hx hC1 hC0 hblk hb1 h
  go_enter Tryz.func47, Tryz.ntmps47
  go_wp2_with (go_at_call 46; refine HX.out.mono ?_; rintro e w' ⟨rfl, q, rfl⟩)
  go_ret
  exact ⟨rfl, pw_below_drewN HB1.out q⟩
theorem impl_alike.calls (k : Nat) (A0_0 : Option Addr) (c0_0 : Nat) (l0_0 : List S58) (a0_1 : Int) (a0_2 : Bool) (A1_0 : Option Addr) (c1_0 : Nat) (l1_0 : List S58) (a1_1 : Int) (a1_2 : Bool) (r : Bool) (w : World) (hr0_0 : Kd.C k58 w A0_0 l0_0.length l0_0) (hc0_0 : l0_0.length ≤ c0_0) (hr1_0 : Kd.C k58 w A1_0 l1_0.length l1_0) (hc1_0 : l1_0.length ≤ c1_0) (h : impl_alike.f k l0_0 a0_1 a0_2 l1_0 a1_1 a1_2 = some r) :
    Calls Tryz.prog 25 #[.agg #[.slice A0_0 l0_0.length c0_0, .int .i64 a0_1, .bool a0_2], .agg #[.slice A1_0 l1_0.length c1_0, .int .i64 a1_1, .bool a1_2]] w fun e w' => e = .returned (.bool r) ∧ Below w.heap.size w w' := by
  unfold impl_alike.f at h
  obtain ⟨L, hL, h⟩ := Option.bind_eq_some_iff.mp h
  obtain ⟨M, hM, h⟩ := Option.bind_eq_some_iff.mp h
  by_cases hl : (L.length ≤ 1000000000000 ∧ M.length ≤ 1000000000000) ∧ (M.all fun a => L.all fun b => (impl_Cell_49.f k a b).isSome) = true
  · rw [if_pos hl] at h
    obtain rfl := Option.some.inj h
    clear h
    have hu := Tryz.underlying43
    have hu2 := Tryz.underlying54
    have eg : ∀ args w, (callFunc 47 args).run Tryz.prog w = .ok (.enter 47 args) w := enters_ Tryz.func47 (by kernel_rfl) rfl
    have HEG := aM eg
    have HR0 := aM hr0_0
    have HR1 := aM hr1_0
    have HC0 := aM hc0_0
    have HC1 := aM hc1_0
    have HLL := aM hL
    have HMM := aM hM
    have HLN := aM hl
    clear hr0_0 hr1_0 hc0_0 hc1_0 hL hM hl eg
    go_enter Tryz.func25, Tryz.ntmps25
    go_wp2_with fail
    refine (impl_formsOf.calls k A1_0 c1_0 l1_0 a1_1 a1_2 L _ (Kd.C_alloc (Kd.C_alloc HR1.out _) _) HC1.out HLL.out).mono ?_
    rintro e w2 ⟨v0, rfl, ho0, hb⟩
    obtain ⟨Al, cl, rfl⟩ := Kd.S_slice ho0
    have HS := aM (Kd.S_reads' ho0).2
    have HBK := blk_below (blk_alloc (blk_new w (.cells #[.slice A0_0 l0_0.length c0_0, .int .i64 a0_1, .bool a0_2] 43 (0, 0))) (.cells #[.slice A1_0 l1_0.length c1_0, .int .i64 a1_1, .bool a1_2] 43 (0, 0))) hb
    have HB := aM (below_step (below_alloc (below_alloc (Below.refl w.heap.size w) _) _) hb)
    have hbX : Below w2.heap.size w2 (w2.alloc (.cells #[.slice Al L.length cl] 54 (0, 0))) := below_alloc (Below.refl _ _) _
    have HBL := aM (blk_new w2 (.cells #[.slice Al L.length cl] 54 (0, 0)))
    have hz0 : (w2.alloc (.cells #[.slice Al L.length cl] 54 (0, 0))).cell? ⟨w.heap.size, 0, none⟩ = some (.slice A0_0 l0_0.length c0_0) := pw_cell_below hbX ((blk_cell HBK 0).trans rfl)
    have hz1 : (w2.alloc (.cells #[.slice Al L.length cl] 54 (0, 0))).cell? ⟨w.heap.size, 1, none⟩ = some (.int .i64 a0_1) := pw_cell_below hbX ((blk_cell HBK 1).trans rfl)
    have hz2 : (w2.alloc (.cells #[.slice Al L.length cl] 54 (0, 0))).cell? ⟨w.heap.size, 2, none⟩ = some (.bool a0_2) := pw_cell_below hbX ((blk_cell HBK 2).trans rfl)
    have HR2 := aM (Kd.C_below HR0.out HB.out)
    clear ho0 hb HBK hbX
    go_wp2_with fail
    refine (impl_formsOf.calls k A0_0 c0_0 l0_0 a0_1 a0_2 M _ (Kd.C_alloc HR2.out _) HC0.out HMM.out).mono ?_
    rintro e w3 ⟨v1, rfl, ho1, hb⟩
    obtain ⟨Am, cm, rfl⟩ := Kd.S_slice ho1
    have HS3 := aM (Kd.S_reads' ho1).2
    have HB3 := aM (below_step (below_alloc HB.out _) hb)
    have hK := blk_below HBL.out hb
    have hCL := Kd.C_below (Kd.C_alloc HS.out.2 (.cells #[.slice Al L.length cl] 54 (0, 0))) hb
    have HX := aM (fun q => contL_calls 47 #[.pointer (some ⟨w2.heap.size, 0, none⟩)] (fun a => L.any fun b => impl_Cell_49.f k a b == some true) (fun w1 => Below w3.heap.size w3 w1) HEG.out Am cm M (w3.drewN q) (pw_below_drewN (Below.refl _ _) q)
      (fun w1 h1 => Kd.C_below HS3.out.2 h1) (fun w1 n h1 => pw_below_drewN h1 n) HLN.out.1.2 (by
        intro a ha w1 A c h1 hc hC
        refine (predL k w2.heap.size Al cl L w1 (blk_below hK h1) (Kd.C_below hCL h1) HLN.out.1.1 A c a hC hc (List.all_eq_true.1 HLN.out.2 a ha)).mono ?_
        rintro e w' ⟨rfl, hb'⟩
        exact ⟨rfl, below_step h1 hb'⟩))
    clear ho1 hb hK hCL
    go_wp2_with fail
    first | refine (HX.out _).mono ?_ | refine (HX.out 0).mono ?_
    rintro e w4 ⟨rfl, hb4⟩
    have HB4 := aM (below_step HB3.out hb4)
    clear hb4
    go_wp2
    go_ret
    exact ⟨rfl, HB4.out⟩
  · rw [if_neg hl] at h
    exact absurd h (by simp)
end Go.Proofs.YtfdfdifjkaaeoaaGreat.F
end
section
namespace Go.Proofs.YtfdfdifjkaaeoaaGreat.F
open Go.RowKit Go.Proofs.YtfdfdifjkaaeoaaGreatW.PrintWords Go.Proofs.YtfdfdifjkaaeoaaGreatW.PrintLast Go.Proofs.YtfdfdifjkaaeoaaGreatW.PrintMore
attribute [local go_sem] max2_int min2_int max_two min_two max_three min_three max_four min_four
set_option linter.unusedVariables false
set_option linter.unusedSimpArgs false
mutual
def impl_IsPuzzle.j0 : Nat → Bool → List (S58) → List (S43) → Option (Bool)
 | 0, _, _, _ => none
 | k + 1, x22, x470000, x470001 => if x22 = true then (some false) else (impl_IsPuzzle.l0 k x470001 (x470001.length : Int) 0 x470000 x470001)
def impl_IsPuzzle.l0 : Nat → List (S43) → Int → Int → List (S58) → List (S43) → Option (Bool)
 | 0, _, _, _, _, _ => none
 | k + 1, x24, x25, x26, x470000, x470001 => if x26 < x25 then (if 0 ≤ x26 then (if x26 < (x24.length : Int) then ((impl_IsPiece.f k ((rd_T43 x24 x26).f0) ((rd_T43 x24 x26).f1) ((rd_T43 x24 x26).f2)).bind fun t473 => (if t473 = true then (if x26 ≤ (x470001.length : Int) then ((some (x470001.take (x26 : Int).toNat : List (S43))).bind fun y474 => (impl_IsPuzzle.l1 k x24 x25 x26 y474 (y474.length : Int) 0 x470000 x470001 ((rd_T43 x24 x26).f0) ((rd_T43 x24 x26).f1) ((rd_T43 x24 x26).f2))) else (none)) else (some false))) else (none)) else (none)) else (some true)
def impl_IsPuzzle.l1 : Nat → List (S43) → Int → Int → List (S43) → Int → Int → List (S58) → List (S43) → List (S58) → Int → Bool → Option (Bool)
 | 0, _, _, _, _, _, _, _, _, _, _, _ => none
 | k + 1, x24, x25, x26, x37, x38, x39, x470000, x470001, x473000, x473001, x473002 => if x39 < x38 then (if 0 ≤ x39 then (if x39 < (x37.length : Int) then (if (x473000.length : Int) = (((rd_T43 x37 x39).f0).length : Int) then ((impl_alike.f k x473000 x473001 x473002 ((rd_T43 x37 x39).f0) ((rd_T43 x37 x39).f1) ((rd_T43 x37 x39).f2)).bind fun t480 => (if t480 = true then (some false) else (impl_IsPuzzle.l1 k x24 x25 x26 x37 x38 (wrap64 (x39 + 1)) x470000 x470001 x473000 x473001 x473002))) else (impl_IsPuzzle.l1 k x24 x25 x26 x37 x38 (wrap64 (x39 + 1)) x470000 x470001 x473000 x473001 x473002)) else (none)) else (none)) else (impl_IsPuzzle.l0 k x24 x25 (wrap64 (x26 + 1)) x470000 x470001)
end
def impl_IsPuzzle.f (k : Nat) (l0_0 : List (S58)) (l0_1 : List (S43)) : Option (Bool) := (impl_IsRegion.f k l0_0).bind fun t470 => (if t470 = true then (if (l0_1.length : Int) < 1 then (impl_IsPuzzle.j0 k true l0_0 l0_1) else (impl_IsPuzzle.j0 k (decide ((l0_1.length : Int) > 12)) l0_0 l0_1)) else (impl_IsPuzzle.j0 k true l0_0 l0_1))
end Go.Proofs.YtfdfdifjkaaeoaaGreat.F
end
