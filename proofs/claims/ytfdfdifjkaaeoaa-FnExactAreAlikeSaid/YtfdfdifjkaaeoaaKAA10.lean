/- The row of FnExactAreAlike, with what it needs: text 11 of 12. -/
import Derived.Test.YtfdfdifjkaaeoaaKAA9
set_option maxHeartbeats 8000000
set_option maxRecDepth 100000
section
namespace Go.Proofs.Ytfdfdifjkaaeoaa.Open
open Go.ChangeShapes Go.WideShapes Go.Deep Go.RowKit Go.Proofs.YtfdfdifjkaaeoaaW.PrintWords
def Opens {α : Type} (P : Program) (d : Kd α) (t : TypeId) (V : α → Prop) : Prop :=
  ∀ (H : Type) (enc : TypeId × Value → H) (w : World) (base : Nat) (spare : Nat → Bool) (held : Bool) (fuel : Nat) (cs : List Value) (x : DataW H × List MemPlace),
    DataW.trod enc P w base spare held fuel t cs = some x → ∃ a : α, d.K w a cs ∧ V a
theorem Opens.int {P : Program} {t : TypeId} {k : IntKind} (ht : P.underlying t = some (.int k)) : Opens P (Kd.int k) t (fun a => (Lit.int k a).wf = true) := by
  intro H enc w base spare held fuel cs x h
  obtain ⟨n, hcs, _, hw⟩ := DataW.trod_int ht h
  exact ⟨n, hcs, hw⟩
theorem Opens.bool {P : Program} {t : TypeId} (ht : P.underlying t = some .bool) : Opens P Kd.bool t (fun _ => True) := by
  intro H enc w base spare held fuel cs x h
  obtain ⟨b, hcs, _⟩ := DataW.trod_bool ht h
  exact ⟨b, hcs, trivial⟩
theorem Opens.slice {α : Type} [Inhabited α] {P : Program} {t e : TypeId} {d : Kd α} {V : α → Prop} (ht : P.underlying t = some (.slice e)) (hsz : P.cellsOf e = d.sz) (ho : Opens P d e V) :
    Opens P (Kd.slice e d) t (fun l => l.length ≤ 9223372036854775807 ∧ ∀ a ∈ l, V a) := by
  intro H enc w base spare held fuel cs x h
  rcases open_slice ht h with ⟨rfl, _⟩ | ⟨a, len, cap, m, n, D, Pl, rfl, hb, hl, hm, hmm, _, hi⟩
  · exact ⟨[], ⟨none, 0, rfl, Nat.le_refl _, rfl, by simp, fun hp => absurd hp (by simp)⟩, by simp, by simp⟩
  · have hlm : len ≤ m := by rw [hmm]; split <;> omega
    have hx : ∀ i, i < len → ∃ y : α, V y ∧ ∃ c : List Value, c.length = d.sz ∧ d.K w y c ∧ ∀ j u, c[j]? = some u → w.cell? (a.add (i * d.sz + j)) = some u := by
      intro i hil
      obtain ⟨cs', hc, ht'⟩ := hi i (by omega)
      obtain ⟨y, hk, hv⟩ := ho H enc w base spare held n cs' _ ht'
      obtain ⟨_, hcl, hat⟩ := World.cells?_some hc
      refine ⟨y, hv, cs', d.K_len hk, hk, fun j u hj => ?_⟩
      have hjl : j < cs'.length := (List.getElem?_eq_some_iff.1 hj).1
      have := hat j (by rw [hsz, ← d.K_len hk]; exact hjl)
      rw [Go.Deep.add_add, hsz] at this
      rw [this, hj]
    obtain ⟨f, hf⟩ := choose_lt hx
    have hlen : ((List.range len).map f).length = len := by simp
    refine ⟨(List.range len).map f, ⟨some a, cap, by rw [hlen], by rw [hlen]; exact hl, rfl, ?_, fun _ => ⟨a, rfl, fun j p hj => ?_⟩⟩, ?_⟩
    · rw [hlen]; unfold maxLen at hm; omega
    · have hjl : j < len := by
        have := (List.getElem?_eq_some_iff.1 hj).1
        rwa [hlen] at this
      have hp : f j = p := by
        rw [List.getElem?_map, List.getElem?_range hjl] at hj
        simpa using hj
      obtain ⟨_, c, h1, h2, h3⟩ := hf j hjl
      rw [hp] at h2
      exact ⟨c, h1, h2, h3⟩
    · refine ⟨by rw [hlen]; unfold maxLen at hm; omega, fun y hy => ?_⟩
      obtain ⟨i, hi', rfl⟩ := List.mem_map.1 hy
      exact (hf i (List.mem_range.1 hi')).1
theorem cut2 {cs : List Value} {n m : Nat} (h : cs.length = n + m) : cs = (cs.drop 0).take n ++ (cs.drop n).take m := by
  rw [List.drop_zero, List.take_of_length_le (l := cs.drop n) (by rw [List.length_drop]; omega), List.take_append_drop]
theorem Opens.struct2 {α β γ : Type} {P : Program} {t : TypeId} {f0 f1 : Field} {d0 : Kd α} {d1 : Kd β} {V0 : α → Prop} {V1 : β → Prop} (g : γ → α × β) (g' : α → β → γ) (hg : ∀ x y, g (g' x y) = (x, y))
    (ht : P.underlying t = some (.struct #[f0, f1])) (o0 : f0.offset = 0) (o1 : f1.offset = d0.sz) (s0 : P.cellsOf f0.type = d0.sz) (s1 : P.cellsOf f1.type = d1.sz) (sz : P.cellsOf t = d0.sz + d1.sz)
    (h0 : Opens P d0 f0.type V0) (h1 : Opens P d1 f1.type V1) : Opens P (Kd.iso (Kd.pair d0 d1) g) t (fun a => V0 (g a).1 ∧ V1 (g a).2) := by
  intro H enc w base spare held fuel cs x h
  obtain ⟨y0, y1, n, _, hl, t0, t1⟩ := trod_struct2 ht h
  rw [o0, s0] at t0
  rw [o1, s1] at t1
  obtain ⟨x0, k0, v0⟩ := h0 _ _ _ _ _ _ _ _ _ t0
  obtain ⟨x1, k1, v1⟩ := h1 _ _ _ _ _ _ _ _ _ t1
  refine ⟨g' x0 x1, ?_, ?_⟩
  · show ∃ c0 c1, cs = c0 ++ c1 ∧ d0.K w (g (g' x0 x1)).1 c0 ∧ d1.K w (g (g' x0 x1)).2 c1
    rw [hg]
    exact ⟨_, _, cut2 (by rw [hl, sz]), k0, k1⟩
  · simp only [hg]; exact ⟨v0, v1⟩
theorem Opens.struct3 {α β γ δ : Type} {P : Program} {t : TypeId} {f0 f1 f2 : Field} {d0 : Kd α} {d1 : Kd β} {d2 : Kd γ} {V0 : α → Prop} {V1 : β → Prop} {V2 : γ → Prop} (g : δ → α × β × γ) (g' : α → β → γ → δ) (hg : ∀ x y z, g (g' x y z) = (x, y, z))
    (ht : P.underlying t = some (.struct #[f0, f1, f2])) (o0 : f0.offset = 0) (o1 : f1.offset = d0.sz) (o2 : f2.offset = d0.sz + d1.sz) (s0 : P.cellsOf f0.type = d0.sz) (s1 : P.cellsOf f1.type = d1.sz) (s2 : P.cellsOf f2.type = d2.sz) (sz : P.cellsOf t = d0.sz + (d1.sz + d2.sz))
    (h0 : Opens P d0 f0.type V0) (h1 : Opens P d1 f1.type V1) (h2 : Opens P d2 f2.type V2) : Opens P (Kd.iso (Kd.pair d0 (Kd.pair d1 d2)) g) t (fun a => V0 (g a).1 ∧ V1 (g a).2.1 ∧ V2 (g a).2.2) := by
  intro H enc w base spare held fuel cs x h
  obtain ⟨y0, y1, y2, n, _, hl, t0, t1, t2⟩ := trod_struct3 ht h
  rw [o0, s0] at t0
  rw [o1, s1] at t1
  rw [o2, s2] at t2
  obtain ⟨x0, k0, v0⟩ := h0 _ _ _ _ _ _ _ _ _ t0
  obtain ⟨x1, k1, v1⟩ := h1 _ _ _ _ _ _ _ _ _ t1
  obtain ⟨x2, k2, v2⟩ := h2 _ _ _ _ _ _ _ _ _ t2
  refine ⟨g' x0 x1 x2, ?_, ?_⟩
  · show ∃ c0 c1, cs = c0 ++ c1 ∧ d0.K w (g (g' x0 x1 x2)).1 c0 ∧ ∃ c2 c3, c1 = c2 ++ c3 ∧ d1.K w (g (g' x0 x1 x2)).2.1 c2 ∧ d2.K w (g (g' x0 x1 x2)).2.2 c3
    rw [hg]
    refine ⟨_, _, cut2 (n := d0.sz) (m := d1.sz + d2.sz) (by rw [hl, sz]), k0, (cs.drop d0.sz).take d1.sz, (cs.drop (d0.sz + d1.sz)).take d2.sz, ?_, k1, k2⟩
    rw [← List.drop_drop, List.take_of_length_le (l := cs.drop d0.sz) (by rw [List.length_drop]; omega)]
    have := cut2 (cs := cs.drop d0.sz) (n := d1.sz) (m := d2.sz) (by rw [List.length_drop]; omega)
    rwa [List.drop_zero] at this
  · simp only [hg]; exact ⟨v0, v1, v2⟩
theorem arg_open {α : Type} {P : Program} {t : TypeId} {d : Kd α} {V : α → Prop} (ho : Opens P d t V) {H : Type} {enc : TypeId × Value → H} {w : World} {base : Nat} {spare : Nat → Bool} {held : Bool} {v : Value} {x : DataW H} {p : List MemPlace}
    (h : DataW.Trod enc P w base spare held t v x p) : ∃ a : α, d.K w a v.cells.toList ∧ V a := by
  obtain ⟨fuel, hf⟩ := h
  exact ho _ _ _ _ _ _ _ _ _ hf
end Go.Proofs.Ytfdfdifjkaaeoaa.Open
end
section
namespace Go.Proofs.Ytfdfdifjkaaeoaa.F
open Go.RowKit Go.Proofs.YtfdfdifjkaaeoaaW.PrintWords Go.Proofs.Ytfdfdifjkaaeoaa.Open
instance : Inhabited S72 := ⟨⟨default, default⟩⟩
def V72 : S72 → Prop := fun a => (fun a => (Lit.int .i64 a).wf = true) a.f0 ∧ (fun a => (Lit.int .i64 a).wf = true) a.f1
theorem O72 : Opens Try.prog k72 72 V72 :=
  Opens.struct2 (fun x : S72 => (x.f0, x.f1)) (fun a b => ⟨a, b⟩) (fun _ _ => rfl) Try.underlying72 rfl rfl (by kernel_rfl) (by kernel_rfl) (by kernel_rfl) (Opens.int Try.underlying2) (Opens.int Try.underlying2)
instance : Inhabited S47 := ⟨⟨default, default, default⟩⟩
def V47 : S47 → Prop := fun a => (fun l => l.length ≤ 9223372036854775807 ∧ ∀ a ∈ l, V72 a) a.f0 ∧ (fun a => (Lit.int .i64 a).wf = true) a.f1 ∧ (fun _ => True) a.f2
theorem st47_open {w : World} {x : S47} {cs : List Value} (h : k47.K w x cs) : ∃ (A0 : Option Addr) (c0 : Nat), cs = [.slice A0 x.f0.length c0, .int .i64 x.f1, .bool x.f2] ∧ x.f0.length ≤ c0 ∧ Kd.C k72 w A0 x.f0.length x.f0 := by
  obtain ⟨_, _, rfl, h0, _, _, rfl, h1, h2⟩ := h
  obtain ⟨A0, c0, rfl, l0, r0⟩ := h0
  obtain rfl := h1
  obtain rfl := h2
  exact ⟨A0, c0, rfl, l0, r0⟩
theorem O47 : Opens Try.prog k47 47 V47 :=
  Opens.struct3 (fun x : S47 => (x.f0, x.f1, x.f2)) (fun a b c => ⟨a, b, c⟩) (fun _ _ _ => rfl) Try.underlying47 rfl rfl rfl (by kernel_rfl) (by kernel_rfl) (by kernel_rfl) (by kernel_rfl) (Opens.slice Try.underlying22 (by kernel_rfl) O72) (Opens.int Try.underlying2) (Opens.bool Try.underlying4)
end Go.Proofs.Ytfdfdifjkaaeoaa.F
end
section
namespace Go.Proofs.Ytfdfdifjkaaeoaa.L
open Go.RowKit Go.Proofs.YtfdfdifjkaaeoaaW.PrintWords
theorem Ev.pos {α : Type} {c : Prop} [Decidable c] {f g : Nat → Option α} {r : α} (h : c) (e : Ev f r) : Ev (fun k => if c then f k else g k) r := by
  obtain ⟨K, e⟩ := e
  exact ⟨K, fun k hk => (if_pos h).trans (e k hk)⟩
theorem Ev.neg {α : Type} {c : Prop} [Decidable c] {f g : Nat → Option α} {r : α} (h : ¬ c) (e : Ev g r) : Ev (fun k => if c then f k else g k) r := by
  obtain ⟨K, e⟩ := e
  exact ⟨K, fun k hk => (if_neg h).trans (e k hk)⟩
theorem Ev.if_ {α : Type} {c : Prop} [Decidable c] {f g : Nat → Option α} {r s : α} (h : c → Ev f r) (h' : ¬ c → Ev g s) : Ev (fun k => if c then f k else g k) (if c then r else s) := by
  by_cases hc : c
  · rw [if_pos hc]; exact Ev.pos hc (h hc)
  · rw [if_neg hc]; exact Ev.neg hc (h' hc)
theorem Ev.of_eq {α : Type} {g : Nat → Option α} {r s : α} (h : Ev g r) (e : r = s) : Ev g s := e ▸ h
theorem Ev.succ {α : Type} {g : Nat → Option α} {r : α} (h : Ev (fun k => g (k + 1)) r) : Ev g r := by
  obtain ⟨K, h⟩ := h
  refine ⟨K + 1, fun n hn => ?_⟩
  obtain ⟨m, rfl⟩ : ∃ m, n = m + 1 := ⟨n - 1, by omega⟩
  exact h m (by omega)
theorem w64 {n : Int} (h : -9223372036854775808 ≤ n) (h' : n ≤ 9223372036854775807) : wrap64 n = n := by
  unfold wrap64
  omega
theorem getD_at {α : Type} (pre suf : List α) (c d : α) : (pre ++ c :: suf).getD (pre.length : Int).toNat d = c := by
  simp [List.getD]
end Go.Proofs.Ytfdfdifjkaaeoaa.L
namespace Go.Proofs.Ytfdfdifjkaaeoaa.L
open Go.RowKit Go.Proofs.YtfdfdifjkaaeoaaW.PrintWords
theorem loop_list {α σ ρ : Type} (xs : List α) (l : Nat → Int → σ → Option ρ) (g : List α → List α → σ → ρ) (Inv : List α → σ → Prop)
    (hn : ∀ s, Inv xs s → Ev (fun k => l (k + 1) (xs.length : Int) s) (g xs [] s))
    (hs : ∀ (pre : List α) (c : α) (suf : List α) (s : σ), xs = pre ++ c :: suf → Inv pre s → (∀ s', Inv (pre ++ [c]) s' → Ev (fun k => l k ((pre.length : Int) + 1) s') (g (pre ++ [c]) suf s')) → Ev (fun k => l (k + 1) (pre.length : Int) s) (g pre (c :: suf) s)) :
    ∀ s, Inv [] s → Ev (fun k => l k 0 s) (g [] xs s) := by
  have key : ∀ (suf pre : List α), xs = pre ++ suf → ∀ s, Inv pre s → Ev (fun k => l k (pre.length : Int) s) (g pre suf s) := by
    intro suf
    induction suf with
    | nil =>
      intro pre hx s hi
      rw [List.append_nil] at hx
      subst hx
      exact Ev.succ (hn s hi)
    | cons c suf ih =>
      intro pre hx s hi
      refine Ev.succ (hs pre c suf s hx hi fun s' hi' => ?_)
      have := ih (pre ++ [c]) (by rw [hx]; simp) s' hi'
      rw [List.length_append] at this
      exact this
  intro s hi
  exact key xs [] rfl s hi
end Go.Proofs.Ytfdfdifjkaaeoaa.L
end
section
namespace Go.Proofs.Ytfdfdifjkaaeoaa.L
open Go.RowKit Go.Proofs.YtfdfdifjkaaeoaaW.PrintWords Go.Proofs.YtfdfdifjkaaeoaaW.PrintLast Go.Proofs.YtfdfdifjkaaeoaaW.PrintMore Go.Proofs.Ytfdfdifjkaaeoaa.F
set_option linter.unusedVariables false
set_option linter.unusedSimpArgs false
abbrev Cell := S59
abbrev LCell := S72
theorem in_eq (a b c : Int) : spec_l01In.f a b c = some (decide (b ≤ a ∧ a ≤ c)) := by
  unfold spec_l01In.f
  by_cases h : a ≥ b
  · rw [if_pos h]; simp [show b ≤ a from h]
  · rw [if_neg h]; simp [show ¬ b ≤ a from h]
theorem within_eq (a b c : Int) : impl_within.f a b c = some (decide (b ≤ a ∧ a ≤ c)) := by
  unfold impl_within.f
  by_cases h : a ≥ b
  · rw [if_pos h]; simp [show b ≤ a from h]
  · rw [if_neg h]; simp [show ¬ b ≤ a from h]
def ok1 (n : Int) : Prop := -100 ≤ n ∧ n ≤ 100
instance (n : Int) : Decidable (ok1 n) := by unfold ok1; infer_instance
def okC (c : Cell) : Prop := ok1 c.f0 ∧ ok1 c.f1
instance (c : Cell) : Decidable (okC c) := by unfold okC; infer_instance
def ltC (a b : Cell) : Prop := a.f1 < b.f1 ∨ a.f1 = b.f1 ∧ a.f0 < b.f0
instance (a b : Cell) : Decidable (ltC a b) := by unfold ltC; infer_instance
theorem isCoordinate_eq (n : Int) : impl_isCoordinate.f n = some (decide (ok1 n)) := by
  unfold impl_isCoordinate.f
  rw [within_eq]
  rfl
theorem l02Cell_eq (x y : Int) : spec_l02Cell.f x y = some (decide (ok1 x ∧ ok1 y)) := by
  unfold spec_l02Cell.f
  rw [in_eq, in_eq]
  simp only [Option.bind_some]
  by_cases h : -100 ≤ x ∧ x ≤ 100
  · have h' : ok1 x := h
    simp only [h, and_self, decide_true, if_true, true_and, h', ok1]
  · have h' : ¬ ok1 x := h
    simp [h, h']
theorem toCell_eq (x y : Int) : laws_toCell.f x y = some (x, y) := rfl
theorem eqCell_eq (a b c d : Int) : laws_eqCell.f a b c d = some (decide (a = c ∧ b = d)) := by
  unfold laws_eqCell.f
  by_cases h : a = c
  · by_cases h' : b = d <;> simp [h, h']
  · simp [h]
def small {α : Type} (l : List α) : Prop := l.length ≤ 4611686018427387904
theorem pre_lt {α : Type} {xs pre suf : List α} {c : α} (h : xs = pre ++ c :: suf) : ((pre.length : Int) < (xs.length : Int)) = True := by
  subst h; simp; omega
theorem pre_w {α : Type} {xs pre suf : List α} {c : α} (h : xs = pre ++ c :: suf) (hs : small xs) : wrap64 ((pre.length : Int) + 1) = (pre.length : Int) + 1 := by
  subst h
  unfold small at hs
  rw [List.length_append, List.length_cons] at hs
  exact w64 (by omega) (by omega)
theorem pre_0 {α : Type} (pre : List α) : (0 ≤ (pre.length : Int)) = True := by simp
theorem len_lt {α : Type} (xs : List α) : ((xs.length : Int) < (xs.length : Int)) = False := by simp
theorem at_pre {xs pre suf : List Cell} {c : Cell} (h : xs = pre ++ c :: suf) : rd_T59 xs (pre.length : Int) = c := by
  subst h; exact getD_at pre suf c _
theorem at_preL {xs pre suf : List LCell} {c : LCell} (h : xs = pre ++ c :: suf) : rd_T72 xs (pre.length : Int) = c := by
  subst h; exact getD_at pre suf c _
theorem eqCellS_ev (a : List Cell) (ha : small a) : Ev (fun k => laws_eqCellS.f k a a) true := by
  unfold laws_eqCellS.f
  refine Ev.pos rfl ?_
  refine loop_list a (fun k i (_ : Unit) => laws_eqCellS.l0 k a a i) (fun _ _ _ => true) (fun _ _ => True) ?_ ?_ () trivial
  · intro _ _
    simp only [laws_eqCellS.l0, len_lt, if_false]
    exact Ev.now _
  · intro pre c suf _ hx _ ih
    simp only [laws_eqCellS.l0, pre_lt hx, pre_0, if_true, at_pre hx, eqCell_eq, and_self, decide_true, Option.bind_some, pre_w hx ha]
    exact ih () trivial
def cellOf (c : LCell) : Cell := ⟨c.f0, c.f1⟩
theorem toCellS_ev (a : List LCell) (ha : a.length ≤ 1048576) : Ev (fun k => laws_toCellS.f k a) (a.map cellOf) := by
  have hs : small a := by unfold small; omega
  unfold laws_toCellS.f
  refine Ev.pos (by omega) (Ev.pos (by omega) ?_)
  have := loop_list a (fun k i (s : List Cell) => laws_toCellS.l0 k a s i) (fun _ suf s => s.take (a.length - suf.length) ++ suf.map cellOf) (fun pre s => s.length = a.length) ?_ ?_ (List.replicate a.length z59) (by simp)
  · refine Ev.of_eq this ?_
    simp
  · intro s hl
    simp only [laws_toCellS.l0, len_lt, if_false]
    refine Ev.of_eq (Ev.now _) ?_
    simp [List.take_of_length_le, hl]
  · intro pre c suf s hx hl ih
    have hlt : ((pre.length : Int) < (s.length : Int)) = True := by rw [hl]; exact pre_lt hx
    simp only [laws_toCellS.l0, pre_lt hx, pre_0, if_true, at_preL hx, toCell_eq, Option.bind_some, hlt, pre_w hx hs]
    refine Ev.of_eq (ih (s.set (pre.length : Int).toNat ⟨c.f0, c.f1⟩) (by simpa using hl)) ?_
    have hn : a.length = pre.length + (suf.length + 1) := by rw [hx]; simp
    have e1 : a.length - suf.length = pre.length + 1 := by omega
    have e2 : a.length - (c :: suf).length = pre.length := by simp; omega
    rw [e1, e2, Int.toNat_natCast, List.take_add_one, List.getElem?_set_self (by omega), List.take_set_of_le (Nat.le_refl _)]
    simp [cellOf]
theorem pre_len {α : Type} {xs pre suf : List α} {c : α} (h : xs = pre ++ c :: suf) : pre.length < xs.length := by
  subst h; simp
theorem szCellS_eq (a : List LCell) (n : Int) (h0 : 0 ≤ n) (h1 : n ≤ 1048576) (ha : a.length ≤ 9223372036854775807) : laws_szCellS.f a n = some (if n - (a.length : Int) < 0 then -1 else n - (a.length : Int)) := by
  unfold laws_szCellS.f
  rw [w64 (by omega) (by omega)]
  split <;> rfl
theorem at_preI {xs pre suf : List Int} {c : Int} (h : xs = pre ++ c :: suf) : rd xs (pre.length : Int) = c := by
  subst h; exact getD_at pre suf c _
def cmpI (a b : Int) : Int := if a < b then -1 else if a > b then 1 else 0
theorem compare_eq (a b : Int) : cmp_Compare_int64.f a b = some (cmpI a b) := by
  unfold cmp_Compare_int64.f cmp_isNaN_int64.f cmpI
  simp only [bne_self_eq_false, Option.bind_some, Bool.false_eq_true, if_false]
  split
  · rfl
  · split <;> rfl
theorem l02Less_eq (a b c d : Int) : spec_l02Less.f a b c d = some (decide (b < d ∨ b = d ∧ a < c)) := by
  unfold spec_l02Less.f
  by_cases h : b < d
  · simp [h]
  · by_cases h' : b = d <;> simp [h, h']
    
def cmpC (a b : Cell) : Int := if cmpI a.f1 b.f1 = 0 then cmpI a.f0 b.f0 else cmpI a.f1 b.f1
theorem compareCells_eq (a b : Cell) : impl_compareCells.f a.f0 a.f1 b.f0 b.f1 = some (cmpC a b) := by
  unfold impl_compareCells.f cmpC
  simp only [compare_eq, Option.bind_some]
  split <;> rfl
theorem cmpC_lt {a b : Cell} : cmpC a b < 0 ↔ ltC a b := by
  unfold cmpC cmpI ltC
  repeat' split
  all_goals constructor <;> intro h <;> omega
theorem cmpC_ge {a b : Cell} : cmpC a b ≥ 0 ↔ ¬ ltC a b := by
  rw [← cmpC_lt]; omega
def goodFrom : Option Cell → List Cell → Bool
  | _, [] => true
  | p, c :: r => decide (okC c) && (match p with | none => true | some q => decide (ltC q c)) && goodFrom (some c) r
def shapeB (l : List Cell) : Bool := goodFrom none l && decide (1 ≤ (l.length : Int) ∧ (l.length : Int) ≤ 40)
theorem specIsShape_ev (l : List Cell) (hs : small l) : Ev (fun k => spec_IsShape.f k l) (shapeB l) := by
  unfold spec_IsShape.f
  refine loop_list l (fun k i (_ : Unit) => spec_IsShape.l0 k l i) (fun pre suf _ => goodFrom pre.getLast? suf && decide (1 ≤ (l.length : Int) ∧ (l.length : Int) ≤ 40)) (fun _ _ => True) ?_ ?_ () trivial
  · intro _ _
    simp only [spec_IsShape.l0, len_lt, if_false, in_eq, Option.bind_some]
    refine Ev.of_eq (Ev.now _) ?_
    simp [goodFrom]
  · intro pre c suf _ hx _ ih
    simp only [spec_IsShape.l0, pre_lt hx, pre_0, if_true, at_pre hx, l02Cell_eq, Option.bind_some, pre_w hx hs]
    by_cases hc : okC c
    · have hc' : ok1 c.f0 ∧ ok1 c.f1 := hc
      simp only [hc', and_self, decide_true, if_true]
      rcases List.eq_nil_or_concat pre with rfl | ⟨L, b, rfl⟩
      · refine Ev.neg (by simp) (Ev.of_eq (ih () trivial) ?_)
        simp [goodFrom, hc]
      · rw [List.concat_eq_append] at hx ih ⊢
        have hx2 : l = L ++ b :: (c :: suf) := by rw [hx]; simp
        have e1 : wrap64 (((L ++ [b]).length : Int) - 1) = (L.length : Int) := by
          unfold small at hs
          rw [hx2] at hs
          simp only [List.length_append, List.length_cons, List.length_nil] at hs ⊢
          rw [w64 (by omega) (by omega)]; omega
        refine Ev.pos (by simp <;> omega) ?_
        simp only [e1, pre_0, if_true, pre_lt hx2, at_pre hx2, l02Less_eq, Option.bind_some]
        by_cases hl : ltC b c
        · have hl' : b.f1 < c.f1 ∨ b.f1 = c.f1 ∧ b.f0 < c.f0 := hl
          refine Ev.pos (by simpa using hl') (Ev.of_eq (ih () trivial) ?_)
          simp [goodFrom, hc, hl]
        · have hl' : ¬ (b.f1 < c.f1 ∨ b.f1 = c.f1 ∧ b.f0 < c.f0) := hl
          refine Ev.neg (by simpa using hl') (Ev.of_eq (Ev.now _) ?_)
          simp [goodFrom, hc, hl]
    · have hc' : ¬ (ok1 c.f0 ∧ ok1 c.f1) := hc
      simp only [hc', decide_false, Bool.false_eq_true, if_false]
      refine Ev.of_eq (Ev.now _) ?_
      simp [goodFrom, hc]
theorem implIsShape_ev (l : List Cell) (hs : small l) : Ev (fun k => impl_IsShape.f k l) (shapeB l) := by
  unfold impl_IsShape.f
  refine loop_list l (fun k i (_ : Unit) => impl_IsShape.l0 k l l (l.length : Int) i) (fun pre suf _ => goodFrom pre.getLast? suf && decide (1 ≤ (l.length : Int) ∧ (l.length : Int) ≤ 40)) (fun _ _ => True) ?_ ?_ () trivial
  · intro _ _
    simp only [impl_IsShape.l0, len_lt, if_false]
    refine Ev.of_eq (Ev.if_ (fun _ => Ev.now _) (fun _ => Ev.now _)) ?_
    by_cases h : (l.length : Int) ≥ 1
    · rw [if_pos h]; simp [goodFrom, show 1 ≤ (l.length : Int) from h]
    · rw [if_neg h]; simp [goodFrom, show ¬ 1 ≤ (l.length : Int) from h]
  · intro pre c suf _ hx _ ih
    simp only [impl_IsShape.l0, pre_lt hx, pre_0, if_true, at_pre hx, isCoordinate_eq, Option.bind_some, pre_w hx hs]
    by_cases hc : okC c
    · have hc' : ok1 c.f0 ∧ ok1 c.f1 := hc
      simp only [hc'.1, hc'.2, decide_true, if_true]
      rcases List.eq_nil_or_concat pre with rfl | ⟨L, b, rfl⟩
      · refine Ev.neg (by simp) (Ev.of_eq (ih () trivial) ?_)
        simp [goodFrom, hc]
      · rw [List.concat_eq_append] at hx ih ⊢
        have hx2 : l = L ++ b :: (c :: suf) := by rw [hx]; simp
        have e1 : wrap64 (((L ++ [b]).length : Int) - 1) = (L.length : Int) := by
          unfold small at hs
          rw [hx2] at hs
          simp only [List.length_append, List.length_cons, List.length_nil] at hs ⊢
          rw [w64 (by omega) (by omega)]; omega
        refine Ev.pos (by simp <;> omega) ?_
        simp only [e1, pre_0, if_true, pre_lt hx2, at_pre hx2, compareCells_eq, Option.bind_some]
        by_cases hl : ltC b c
        · refine Ev.neg (fun h => cmpC_ge.1 h hl) (Ev.of_eq (ih () trivial) ?_)
          simp [goodFrom, hc, hl]
        · refine Ev.pos (cmpC_ge.2 hl) (Ev.of_eq (Ev.now _) ?_)
          simp [goodFrom, hc, hl]
    · by_cases h0 : ok1 c.f0
      · have h1 : ¬ ok1 c.f1 := fun h => hc ⟨h0, h⟩
        simp only [h0, h1, decide_true, if_true, decide_false, Bool.false_eq_true, if_false]
        refine Ev.of_eq (Ev.now _) ?_
        simp [goodFrom, hc]
      · simp only [h0, decide_false, Bool.false_eq_true, if_false]
        refine Ev.of_eq (Ev.now _) ?_
        simp [goodFrom, hc]
theorem goodFrom_ok : ∀ (l : List Cell) (p : Option Cell), goodFrom p l = true → ∀ c ∈ l, okC c
  | [], _, _, c, h => by simp at h
  | a :: r, p, hg, c, h => by
    simp only [goodFrom, Bool.and_eq_true, decide_eq_true_eq] at hg
    rcases List.mem_cons.1 h with rfl | h
    · exact hg.1.1
    · exact goodFrom_ok r _ hg.2 c h
theorem ltC_trans {a b c : Cell} (h : ltC a b) (h' : ltC b c) : ltC a c := by unfold ltC at *; omega
theorem goodFrom_lt : ∀ (l : List Cell) (p : Option Cell), goodFrom p l = true → (∀ q, p = some q → ∀ c ∈ l, ltC q c) ∧ l.Pairwise ltC
  | [], _, _ => ⟨fun _ _ c h => by simp at h, List.Pairwise.nil⟩
  | a :: r, p, hg => by
    simp only [goodFrom, Bool.and_eq_true, decide_eq_true_eq] at hg
    obtain ⟨h1, h2⟩ := goodFrom_lt r (some a) hg.2
    have h3 := h1 a rfl
    refine ⟨fun q hq c hc => ?_, List.pairwise_cons.2 ⟨h3, h2⟩⟩
    subst hq
    have h4 : ltC q a := by simpa using hg.1.2
    rcases List.mem_cons.1 hc with rfl | hc
    · exact h4
    · exact ltC_trans h4 (h3 c hc)
theorem goodFrom_of : ∀ (l : List Cell) (p : Option Cell), (∀ c ∈ l, okC c) → (∀ q, p = some q → ∀ c ∈ l, ltC q c) → l.Pairwise ltC → goodFrom p l = true
  | [], _, _, _, _ => rfl
  | a :: r, p, h0, h1, h2 => by
    obtain ⟨h3, h4⟩ := List.pairwise_cons.1 h2
    simp only [goodFrom, Bool.and_eq_true, decide_eq_true_eq]
    refine ⟨⟨h0 a List.mem_cons_self, ?_⟩, goodFrom_of r (some a) (fun c hc => h0 c (List.mem_cons_of_mem _ hc)) (fun q hq c hc => by injection hq with hq; subst hq; exact h3 c hc) h4⟩
    cases p with
    | none => rfl
    | some q => simpa using h1 q rfl a List.mem_cons_self
theorem shapeB_iff {l : List Cell} : shapeB l = true ↔ (∀ c ∈ l, okC c) ∧ l.Pairwise ltC ∧ 1 ≤ l.length ∧ l.length ≤ 40 := by
  unfold shapeB
  rw [Bool.and_eq_true, decide_eq_true_eq]
  constructor
  · rintro ⟨h, h'⟩
    exact ⟨goodFrom_ok l _ h, (goodFrom_lt l _ h).2, by omega, by omega⟩
  · rintro ⟨h1, h2, h3, h4⟩
    exact ⟨goodFrom_of l none h1 (fun _ h => by cases h) h2, by omega, by omega⟩
def minX : Int → List Cell → Int := fun z l => l.foldl (fun m c => mn m c.f0) z
def minY : Int → List Cell → Int := fun z l => l.foldl (fun m c => mn m c.f1) z
def maxX : Int → List Cell → Int := fun z l => l.foldl (fun m c => mx m c.f0) z
def maxY : Int → List Cell → Int := fun z l => l.foldl (fun m c => mx m c.f1) z
def leastOf (l : List Cell) : Int × Int := match l with | [] => (0, 0) | c :: r => (minX c.f0 r, minY c.f1 r)
def reachOf (l : List Cell) : Int × Int := match l with | [] => (0, 0) | c :: r => (maxX c.f0 r, maxY c.f1 r)
theorem implCorner_ev (l : List Cell) (hs : small l) (h0 : 0 < l.length) : Ev (fun k => impl_corner.f k l) (leastOf l) := by
  unfold impl_corner.f
  obtain ⟨c, r, rfl⟩ : ∃ c r, l = c :: r := by cases l with | nil => simp at h0 | cons c r => exact ⟨c, r, rfl⟩
  refine Ev.pos (by simp <;> omega) ?_
  have h1 : rd_T59 (c :: r) 0 = c := rfl
  rw [h1]
  have := loop_list (c :: r) (fun k i (s : Int × Int) => impl_corner.l0 k (c :: r) ((c :: r).length : Int) i s.1 s.2) (fun _ suf s => (minX s.1 suf, minY s.2 suf)) (fun _ _ => True) ?_ ?_ (c.f0, c.f1) trivial
  · refine Ev.of_eq this ?_
    simp [leastOf, minX, minY, mn]
  · rintro s _
    simp only [impl_corner.l0, len_lt, if_false]
    exact Ev.now _
  · rintro pre d suf s hx _ ih
    simp only [impl_corner.l0, pre_lt hx, pre_0, if_true, at_pre hx, pre_w hx hs]
    exact ih (mn s.1 d.f0, mn s.2 d.f1) trivial
theorem implReach_ev (l : List Cell) (hs : small l) (h0 : 0 < l.length) : Ev (fun k => impl_reach.f k l) (reachOf l) := by
  unfold impl_reach.f
  obtain ⟨c, r, rfl⟩ : ∃ c r, l = c :: r := by cases l with | nil => simp at h0 | cons c r => exact ⟨c, r, rfl⟩
  refine Ev.pos (by simp <;> omega) ?_
  have h1 : rd_T59 (c :: r) 0 = c := rfl
  rw [h1]
  have := loop_list (c :: r) (fun k i (s : Int × Int) => impl_reach.l0 k (c :: r) ((c :: r).length : Int) i s.1 s.2) (fun _ suf s => (maxX s.1 suf, maxY s.2 suf)) (fun _ _ => True) ?_ ?_ (c.f0, c.f1) trivial
  · refine Ev.of_eq this ?_
    simp [reachOf, maxX, maxY, mx]
  · rintro s _
    simp only [impl_reach.l0, len_lt, if_false]
    exact Ev.now _
  · rintro pre d suf s hx _ ih
    simp only [impl_reach.l0, pre_lt hx, pre_0, if_true, at_pre hx, pre_w hx hs]
    exact ih (mx s.1 d.f0, mx s.2 d.f1) trivial
theorem loop_tail {α σ ρ : Type} (c : α) (r : List α) (l : Nat → Int → σ → Option ρ) (g : List α → List α → σ → ρ) (Inv : List α → σ → Prop)
    (hn : ∀ s, Inv (c :: r) s → Ev (fun k => l (k + 1) ((c :: r).length : Int) s) (g (c :: r) [] s))
    (hs : ∀ (pre : List α) (d : α) (suf : List α) (s : σ), c :: r = pre ++ d :: suf → pre ≠ [] → Inv pre s → (∀ s', Inv (pre ++ [d]) s' → Ev (fun k => l k ((pre.length : Int) + 1) s') (g (pre ++ [d]) suf s')) → Ev (fun k => l (k + 1) (pre.length : Int) s) (g pre (d :: suf) s)) :
    ∀ s, Inv [c] s → Ev (fun k => l k 1 s) (g [c] r s) := by
  have key : ∀ (suf pre : List α), c :: r = pre ++ suf → pre ≠ [] → ∀ s, Inv pre s → Ev (fun k => l k (pre.length : Int) s) (g pre suf s) := by
    intro suf
    induction suf with
    | nil =>
      intro pre hx _ s hi
      rw [List.append_nil] at hx
      subst hx
      exact Ev.succ (hn s hi)
    | cons d suf ih =>
      intro pre hx hp s hi
      refine Ev.succ (hs pre d suf s hx hp hi fun s' hi' => ?_)
      have := ih (pre ++ [d]) (by rw [hx]; simp) (by simp) s' hi'
      rw [List.length_append] at this
      exact this
  intro s hi
  exact key r [c] rfl (by simp) s hi
theorem specLeast_ev (l : List Cell) (hs : small l) (h0 : 0 < l.length) : Ev (fun k => spec_l02Least.f k l) (leastOf l) := by
  unfold spec_l02Least.f
  obtain ⟨c, r, rfl⟩ : ∃ c r, l = c :: r := by cases l with | nil => simp at h0 | cons c r => exact ⟨c, r, rfl⟩
  refine Ev.pos (by simp <;> omega) ?_
  have h1 : rd_T59 (c :: r) 0 = c := rfl
  rw [h1]
  refine loop_tail c r (fun k i (s : Int × Int) => spec_l02Least.l0 k (c :: r) s.1 s.2 i) (fun _ suf s => (minX s.1 suf, minY s.2 suf)) (fun _ _ => True) ?_ ?_ (c.f0, c.f1) trivial
  · rintro s _
    simp only [spec_l02Least.l0, len_lt, if_false]
    exact Ev.now _
  · rintro pre d suf s hx _ _ ih
    simp only [spec_l02Least.l0, pre_lt hx, pre_0, if_true, at_pre hx, pre_w hx hs]
    exact ih (mn s.1 d.f0, mn s.2 d.f1) trivial
theorem minX_le : ∀ (l : List Cell) (z : Int), minX z l ≤ z ∧ (∀ c ∈ l, minX z l ≤ c.f0) ∧ (minX z l = z ∨ ∃ c ∈ l, minX z l = c.f0)
  | [], z => ⟨Int.le_refl _, fun c h => by simp at h, .inl rfl⟩
  | a :: r, z => by
    obtain ⟨h1, h2, h3⟩ := minX_le r (mn z a.f0)
    have h4 : mn z a.f0 ≤ z ∧ mn z a.f0 ≤ a.f0 ∧ (mn z a.f0 = z ∨ mn z a.f0 = a.f0) := by unfold mn; split <;> omega
    have e : minX z (a :: r) = minX (mn z a.f0) r := rfl
    rw [e]
    refine ⟨by omega, fun c hc => ?_, ?_⟩
    · rcases List.mem_cons.1 hc with rfl | hc
      · omega
      · exact h2 c hc
    · rcases h3 with h3 | ⟨c, hc, h3⟩
      · rcases h4.2.2 with h5 | h5
        · exact .inl (h3.trans h5)
        · exact .inr ⟨a, List.mem_cons_self, h3.trans h5⟩
      · exact .inr ⟨c, List.mem_cons_of_mem _ hc, h3⟩
theorem minY_le : ∀ (l : List Cell) (z : Int), minY z l ≤ z ∧ (∀ c ∈ l, minY z l ≤ c.f1) ∧ (minY z l = z ∨ ∃ c ∈ l, minY z l = c.f1)
  | [], z => ⟨Int.le_refl _, fun c h => by simp at h, .inl rfl⟩
  | a :: r, z => by
    obtain ⟨h1, h2, h3⟩ := minY_le r (mn z a.f1)
    have h4 : mn z a.f1 ≤ z ∧ mn z a.f1 ≤ a.f1 ∧ (mn z a.f1 = z ∨ mn z a.f1 = a.f1) := by unfold mn; split <;> omega
    have e : minY z (a :: r) = minY (mn z a.f1) r := rfl
    rw [e]
    refine ⟨by omega, fun c hc => ?_, ?_⟩
    · rcases List.mem_cons.1 hc with rfl | hc
      · omega
      · exact h2 c hc
    · rcases h3 with h3 | ⟨c, hc, h3⟩
      · rcases h4.2.2 with h5 | h5
        · exact .inl (h3.trans h5)
        · exact .inr ⟨a, List.mem_cons_self, h3.trans h5⟩
      · exact .inr ⟨c, List.mem_cons_of_mem _ hc, h3⟩
theorem least_le {l : List Cell} {c : Cell} (h : c ∈ l) : (leastOf l).1 ≤ c.f0 ∧ (leastOf l).2 ≤ c.f1 := by
  cases l with
  | nil => simp at h
  | cons a r =>
    have hx := minX_le r a.f0
    have hy := minY_le r a.f1
    show minX a.f0 r ≤ c.f0 ∧ minY a.f1 r ≤ c.f1
    rcases List.mem_cons.1 h with rfl | h
    · exact ⟨hx.1, hy.1⟩
    · exact ⟨hx.2.1 c h, hy.2.1 c h⟩
theorem least_mem {l : List Cell} (h : l ≠ []) : (∃ c ∈ l, (leastOf l).1 = c.f0) ∧ (∃ c ∈ l, (leastOf l).2 = c.f1) := by
  cases l with
  | nil => exact absurd rfl h
  | cons a r =>
    refine ⟨?_, ?_⟩
    · rcases (minX_le r a.f0).2.2 with e | ⟨c, hc, e⟩
      · exact ⟨a, List.mem_cons_self, e⟩
      · exact ⟨c, List.mem_cons_of_mem _ hc, e⟩
    · rcases (minY_le r a.f1).2.2 with e | ⟨c, hc, e⟩
      · exact ⟨a, List.mem_cons_self, e⟩
      · exact ⟨c, List.mem_cons_of_mem _ hc, e⟩
theorem least_ok {l : List Cell} (h : l ≠ []) (ho : ∀ c ∈ l, okC c) : ok1 (leastOf l).1 ∧ ok1 (leastOf l).2 := by
  obtain ⟨⟨c, hc, e⟩, ⟨d, hd, e'⟩⟩ := least_mem h
  rw [e, e']
  exact ⟨(ho c hc).1, (ho d hd).2⟩
def sizeOf_ (l : List Cell) : Int × Int := ((reachOf l).1 - (leastOf l).1 + 1, (reachOf l).2 - (leastOf l).2 + 1)
theorem foldW (x : Int) : ∀ (l : List Cell) (m : Int), l.foldl (fun m c => mx m (c.f0 - x + 1)) (m - x + 1) = maxX m l - x + 1
  | [], m => rfl
  | a :: r, m => by
    have : mx (m - x + 1) (a.f0 - x + 1) = mx m a.f0 - x + 1 := by unfold mx; split <;> split <;> omega
    simp only [List.foldl_cons, this, foldW x r]
    rfl
theorem foldH (x : Int) : ∀ (l : List Cell) (m : Int), l.foldl (fun m c => mx m (c.f1 - x + 1)) (m - x + 1) = maxY m l - x + 1
  | [], m => rfl
  | a :: r, m => by
    have : mx (m - x + 1) (a.f1 - x + 1) = mx m a.f1 - x + 1 := by unfold mx; split <;> split <;> omega
    simp only [List.foldl_cons, this, foldH x r]
    rfl
theorem specSize_ev (l : List Cell) (hs : small l) (h0 : l ≠ []) (ho : ∀ c ∈ l, okC c) : Ev (fun k => spec_l04Size.f k l) (sizeOf_ l) := by
  unfold spec_l04Size.f
  refine Ev.bind (specLeast_ev l hs (List.length_pos_iff.2 h0)) ?_
  have hb := least_ok h0 ho
  have := loop_list l (fun k i (s : Int × Int) => spec_l04Size.l0 k l (leastOf l).1 (leastOf l).2 s.1 s.2 i)
    (fun _ suf s => (suf.foldl (fun m c => mx m (c.f0 - (leastOf l).1 + 1)) s.1, suf.foldl (fun m c => mx m (c.f1 - (leastOf l).2 + 1)) s.2)) (fun _ _ => True) ?_ ?_ (0, 0) trivial
  · refine Ev.of_eq this ?_
    obtain ⟨a, r, rfl⟩ : ∃ a r, l = a :: r := by cases l with | nil => exact absurd rfl h0 | cons a r => exact ⟨a, r, rfl⟩
    have hl := least_le (l := a :: r) (c := a) List.mem_cons_self
    have e1 : mx 0 (a.f0 - (leastOf (a :: r)).1 + 1) = a.f0 - (leastOf (a :: r)).1 + 1 := by unfold mx; split <;> omega
    have e2 : mx 0 (a.f1 - (leastOf (a :: r)).2 + 1) = a.f1 - (leastOf (a :: r)).2 + 1 := by unfold mx; split <;> omega
    simp only [List.foldl_cons, e1, e2, foldW, foldH]
    rfl
  · rintro s _
    simp only [spec_l04Size.l0, len_lt, if_false]
    exact Ev.now _
  · rintro pre d suf s hx _ ih
    have hd := ho d (by rw [hx]; simp)
    unfold okC ok1 at hd
    unfold ok1 at hb
    have e1 : wrap64 (wrap64 (d.f0 - (leastOf l).1) + 1) = d.f0 - (leastOf l).1 + 1 := by rw [w64 (n := d.f0 - (leastOf l).1) (by omega) (by omega), w64 (by omega) (by omega)]
    have e2 : wrap64 (wrap64 (d.f1 - (leastOf l).2) + 1) = d.f1 - (leastOf l).2 + 1 := by rw [w64 (n := d.f1 - (leastOf l).2) (by omega) (by omega), w64 (by omega) (by omega)]
    simp only [spec_l04Size.l0, pre_lt hx, pre_0, if_true, at_pre hx, pre_w hx hs, e1, e2]
    exact ih (mx s.1 (d.f0 - (leastOf l).1 + 1), mx s.2 (d.f1 - (leastOf l).2 + 1)) trivial
def regionB (l : List Cell) : Bool := shapeB l && (decide ((leastOf l).1 = 0) && (decide ((leastOf l).2 = 0) && (decide ((reachOf l).1 < 20) && decide ((reachOf l).2 < 20))))
theorem shape_ne {l : List Cell} (h : shapeB l = true) : l ≠ [] := by
  have := (shapeB_iff.1 h).2.2.1
  intro e
  rw [e] at this
  simp at this
theorem specIsRegion_ev (l : List Cell) (hs : small l) : Ev (fun k => spec_IsRegion.f k l) (regionB l) := by
  unfold spec_IsRegion.f
  refine Ev.bind (specIsShape_ev l hs) ?_
  unfold regionB
  by_cases h : shapeB l = true
  · have hn := shape_ne h
    have ho := (shapeB_iff.1 h).1
    refine Ev.pos h (Ev.bind (specSize_ev l hs hn ho) (Ev.bind (specLeast_ev l hs (List.length_pos_iff.2 hn)) ?_))
    rw [h, Bool.true_and]
    by_cases h1 : (leastOf l).1 = 0
    · refine Ev.pos h1 ?_
      by_cases h2 : (leastOf l).2 = 0
      · refine Ev.pos h2 ?_
        simp only [sizeOf_, h1, h2, decide_true, Bool.true_and]
        by_cases h3 : (reachOf l).1 < 20
        · refine Ev.pos (by omega) (Ev.of_eq (Ev.now _) ?_)
          simp [h3]; omega
        · refine Ev.neg (by omega) (Ev.of_eq (Ev.now _) ?_)
          simp [h3]
      · exact Ev.neg h2 (Ev.of_eq (Ev.now _) (by simp [h2]))
    · exact Ev.neg h1 (Ev.of_eq (Ev.now _) (by simp [h1]))
  · exact Ev.neg h (Ev.of_eq (Ev.now _) (by simp [h]))
theorem implIsRegion_ev (l : List Cell) (hs : small l) : Ev (fun k => impl_IsRegion.f k l) (regionB l) := by
  unfold impl_IsRegion.f
  refine Ev.bind (implIsShape_ev l hs) ?_
  unfold regionB
  by_cases h : shapeB l = true
  · have hn := shape_ne h
    refine Ev.pos h (Ev.bind (implCorner_ev l hs (List.length_pos_iff.2 hn)) ?_)
    rw [h, Bool.true_and]
    by_cases h1 : (leastOf l).1 = 0
    · by_cases h2 : (leastOf l).2 = 0
      · refine Ev.neg (by simp [h1, h2]) (Ev.bind (implReach_ev l hs (List.length_pos_iff.2 hn)) ?_)
        simp only [h1, h2, decide_true, Bool.true_and]
        by_cases h3 : (reachOf l).1 < 20
        · exact Ev.pos h3 (Ev.of_eq (Ev.now _) (by simp [h3]))
        · exact Ev.neg h3 (Ev.of_eq (Ev.now _) (by simp [h3]))
      · exact Ev.pos (by simp [h2]) (Ev.of_eq (Ev.now _) (by simp [h2]))
    · exact Ev.pos (by simp [h1]) (Ev.of_eq (Ev.now _) (by simp [h1]))
  · exact Ev.neg h (Ev.of_eq (Ev.now _) (by simp [h]))
def moveL (l : List Cell) (x y : Int) : List Cell := l.map fun c => ⟨wrap64 (c.f0 + x), wrap64 (c.f1 + y)⟩
theorem moveL_len (l : List Cell) (x y : Int) : (moveL l x y).length = l.length := by simp [moveL]
theorem specMove_ev (l : List Cell) (x y : Int) (hl : l.length ≤ 1048576) : Ev (fun k => spec_l02Move.f k l x y) (moveL l x y) := by
  have hs : small l := by unfold small; omega
  unfold spec_l02Move.f
  have := loop_list l (fun k i (s : List Cell) => spec_l02Move.l0 k l x y s i) (fun pre suf s => s ++ moveL suf x y) (fun pre s => s.length = pre.length) ?_ ?_ [] rfl
  · simpa using this
  · intro s _
    simp only [spec_l02Move.l0, len_lt, if_false]
    exact Ev.of_eq (Ev.now _) (by simp [moveL])
  · intro pre c suf s hx hi ih
    have hp := pre_len hx
    simp only [spec_l02Move.l0, pre_lt hx, pre_0, if_true, at_pre hx, pre_w hx hs]
    refine Ev.pos (by omega) (Ev.of_eq (ih _ (by simp [hi])) ?_)
    simp [moveL]
theorem implMoved_ev (l : List Cell) (x y : Int) (hl : l.length ≤ 1048576) : Ev (fun k => impl_moved.f k l x y) (moveL l x y) := by
  have hs : small l := by unfold small; omega
  unfold impl_moved.f
  refine Ev.pos (by omega) (Ev.pos (by omega) ?_)
  have := loop_list l (fun k i (s : List Cell) => impl_moved.l0 k x y s l (l.length : Int) i) (fun pre suf s => s ++ moveL suf x y) (fun pre s => s.length = pre.length) ?_ ?_ [] rfl
  · simpa using this
  · intro s _
    simp only [impl_moved.l0, len_lt, if_false]
    exact Ev.of_eq (Ev.now _) (by simp [moveL])
  · intro pre c suf s hx hi ih
    have hp := pre_len hx
    simp only [impl_moved.l0, pre_lt hx, pre_0, if_true, at_pre hx, pre_w hx hs]
    refine Ev.pos (by omega) (Ev.of_eq (ih _ (by simp [hi])) ?_)
    simp [moveL]
def normalL (l : List Cell) : List Cell := moveL l (wrap64 (-(leastOf l).1)) (wrap64 (-(leastOf l).2))
theorem normalL_len (l : List Cell) : (normalL l).length = l.length := moveL_len _ _ _
theorem specNormal_ev (l : List Cell) (hl : l.length ≤ 1048576) (h0 : 0 < l.length) : Ev (fun k => spec_l02Normal.f k l) (normalL l) := by
  unfold spec_l02Normal.f
  refine Ev.bind (specLeast_ev l (by unfold small; omega) h0) (Ev.bind (specMove_ev l _ _ hl) (Ev.now _))
theorem implNormal_ev (l : List Cell) (hl : l.length ≤ 1048576) (h0 : 0 < l.length) : Ev (fun k => impl_normal.f k l) (normalL l) := by
  unfold impl_normal.f
  refine Ev.bind (implCorner_ev l (by unfold small; omega) h0) (Ev.bind (implMoved_ev l _ _ hl) (Ev.now _))
def rotP : Nat → Int × Int → Int × Int
  | 0, p => p
  | n + 1, p => rotP n (wrap64 (-p.2), p.1)
def turnC (c : Cell) (t : Int) : Int × Int := rotP (t % 4).toNat (if t ≥ 4 then (wrap64 (-c.f0), c.f1) else (c.f0, c.f1))
theorem specTurn_l (n : Nat) (hn : n ≤ 1048576) : ∀ p : Int × Int, Ev (fun k => spec_l03Turn.l0 k (n : Int) p.1 p.2) (rotP n p) := by
  induction n with
  | zero =>
    intro p
    refine Ev.succ ?_
    simp only [spec_l03Turn.l0]
    exact Ev.neg (by simp) (Ev.now _)
  | succ n ih =>
    intro p
    refine Ev.succ ?_
    simp only [spec_l03Turn.l0]
    have e1 : wrap64 (((n + 1 : Nat) : Int) - 1) = (n : Int) := by rw [w64 (by omega) (by omega)]; omega
    refine Ev.pos (by omega) ?_
    simp only [e1]
    exact ih (by omega) (wrap64 (-p.2), p.1)
theorem implTurn_l (m : Nat) (hm : m ≤ 1048576) (n : Nat) : ∀ (i : Nat) (p : Int × Int), i + n = m → Ev (fun k => impl_turnCell.l0 k (m : Int) (i : Int) p.1 p.2) (rotP n p) := by
  induction n with
  | zero =>
    intro i p hi
    refine Ev.succ ?_
    simp only [impl_turnCell.l0]
    exact Ev.neg (by omega) (Ev.now _)
  | succ n ih =>
    intro i p hi
    refine Ev.succ ?_
    simp only [impl_turnCell.l0]
    have e1 : wrap64 ((i : Int) + 1) = ((i + 1 : Nat) : Int) := by rw [w64 (by omega) (by omega)]; omega
    refine Ev.pos (by omega) ?_
    simp only [e1]
    exact ih (i + 1) (wrap64 (-p.2), p.1) (by omega)
theorem tmod4 {t : Int} (h : 0 ≤ t) : Int.tmod t 4 = ((t % 4).toNat : Int) := by
  rw [Int.tmod_eq_emod_of_nonneg h]
  omega
theorem specTurn_ev (c : Cell) (t : Int) (h : 0 ≤ t) : Ev (fun k => spec_l03Turn.f k c.f0 c.f1 t) (turnC c t) := by
  unfold spec_l03Turn.f turnC
  have := specTurn_l (t % 4).toNat (by omega)
  by_cases h4 : t ≥ 4
  · rw [if_pos h4]
    refine Ev.pos h4 (Ev.step (fun k => spec_l03Turn.j0.eq_2 _ _ _ _) ?_)
    simp only [tmod4 h]
    exact this (wrap64 (-c.f0), c.f1)
  · rw [if_neg h4]
    refine Ev.neg h4 (Ev.step (fun k => spec_l03Turn.j0.eq_2 _ _ _ _) ?_)
    simp only [tmod4 h]
    exact this (c.f0, c.f1)
theorem implTurn_ev (c : Cell) (t : Int) (h : 0 ≤ t) : Ev (fun k => impl_turnCell.f k c.f0 c.f1 t) (turnC c t) := by
  unfold impl_turnCell.f turnC
  have := implTurn_l (t % 4).toNat (by omega) (t % 4).toNat 0
  by_cases h4 : t ≥ 4
  · rw [if_pos h4]
    refine Ev.pos h4 (Ev.step (fun k => impl_turnCell.j0.eq_2 _ _ _ _) ?_)
    simp only [tmod4 h]
    exact this (wrap64 (-c.f0), c.f1) (by omega)
  · rw [if_neg h4]
    refine Ev.neg h4 (Ev.step (fun k => impl_turnCell.j0.eq_2 _ _ _ _) ?_)
    simp only [tmod4 h]
    exact this (c.f0, c.f1) (by omega)
def turnD (t : Int) (c : Cell) : Cell := ⟨(turnC c t).1, (turnC c t).2⟩
theorem sorted_le (x y : Cell) : (!Go.Proofs.ltOf cmpV y x) = decide (¬ ltC y x) := by
  rw [ltV]
  by_cases h : ltC y x
  · have h' : y.f1 < x.f1 ∨ y.f1 = x.f1 ∧ y.f0 < x.f0 := h
    simp [h, h']
  · have h' : ¬ (y.f1 < x.f1 ∨ y.f1 = x.f1 ∧ y.f0 < x.f0) := h
    simp only [h, h', decide_false]
    rfl
theorem sortC_perm (l : List Cell) : (sortC l).Perm l := List.mergeSort_perm _ _
theorem sortC_len (l : List Cell) : (sortC l).length = l.length := (sortC_perm l).length_eq
theorem sortC_sorted (l : List Cell) : (sortC l).Pairwise fun a b => ¬ ltC b a := by
  have := List.pairwise_mergeSort (le := fun x y : Cell => !Go.Proofs.ltOf cmpV y x) (fun a b c h1 h2 => by
    rw [sorted_le, decide_eq_true_eq] at *
    unfold ltC at *
    omega) (fun a b => by
    rw [sorted_le, sorted_le, Bool.or_eq_true, decide_eq_true_eq, decide_eq_true_eq]
    unfold ltC
    omega) l
  exact this.imp fun h => by rw [sorted_le, decide_eq_true_eq] at h; exact h
theorem eq_of_sorted : ∀ (l l' : List Cell), l.Perm l' → (l.Pairwise fun a b => ¬ ltC b a) → (l'.Pairwise fun a b => ¬ ltC b a) → l = l'
  | [], l', hp, _, _ => (List.Perm.nil_eq hp)
  | a :: r, [], hp, _, _ => absurd hp.symm (by simp)
  | a :: r, b :: s, hp, h1, h2 => by
    obtain ⟨h3, h4⟩ := List.pairwise_cons.1 h1
    obtain ⟨h5, h6⟩ := List.pairwise_cons.1 h2
    have hab : a = b := by
      have ha : a ∈ b :: s := hp.mem_iff.1 List.mem_cons_self
      have hb : b ∈ a :: r := hp.mem_iff.2 List.mem_cons_self
      have n1 : ¬ ltC b a := by
        rcases List.mem_cons.1 hb with e | e
        · rw [e]; unfold ltC; omega
        · exact h3 b e
      have n2 : ¬ ltC a b := by
        rcases List.mem_cons.1 ha with e | e
        · rw [e]; unfold ltC; omega
        · exact h5 a e
      obtain ⟨a0, a1⟩ := a
      obtain ⟨b0, b1⟩ := b
      unfold ltC at n1 n2
      simp only at n1 n2
      simp only [S59.mk.injEq]
      omega
    subst hab
    rw [eq_of_sorted r s (List.Perm.cons_inv hp) h4 h6]
theorem sortC_eq {l l' : List Cell} (hp : l'.Perm l) (hs : l'.Pairwise fun a b => ¬ ltC b a) : sortC l = l' :=
  eq_of_sorted _ _ ((sortC_perm l).trans hp.symm) (sortC_sorted l) hs
theorem implSorted_eq (l : List Cell) (h0 : 0 < l.length) (h1 : l.length ≤ 1000000000000) : impl_sorted.f l = some (sortC l) := by
  unfold impl_sorted.f impl_Cell_58.f impl_Cell_100__impl_compareCells.f
  rw [if_pos h1, Option.bind_some, if_pos ⟨h0, by omega⟩]
  rfl
def sameC (a b : Cell) : Bool := decide (a.f0 = b.f0) && decide (a.f1 = b.f1)
theorem sameC_iff {a b : Cell} : sameC a b = true ↔ a = b := by
  obtain ⟨a0, a1⟩ := a
  obtain ⟨b0, b1⟩ := b
  simp [sameC]
def idxF : List Cell → Cell → Int → Int
  | [], _, _ => -1
  | a :: r, c, i => if sameC a c = true then i else idxF r c (i + 1)
def idxC (l : List Cell) (c : Cell) : Int := idxF l c 0
theorem specIndex_ev (l : List Cell) (c : Cell) (hs : small l) : Ev (fun k => spec_l02Index.f k l c.f0 c.f1) (idxC l c) := by
  unfold spec_l02Index.f
  refine loop_list l (fun k i (_ : Unit) => spec_l02Index.l0 k l i c.f0 c.f1) (fun pre suf _ => idxF suf c (pre.length : Int)) (fun _ _ => True) ?_ ?_ () trivial
  · intro _ _
    simp only [spec_l02Index.l0, len_lt, if_false]
    exact Ev.now _
  · intro pre d suf _ hx _ ih
    simp only [spec_l02Index.l0, pre_lt hx, pre_0, if_true, at_pre hx, pre_w hx hs, idxF]
    have e : (d.f0 == c.f0 && d.f1 == c.f1) = sameC d c := by simp [sameC, BEq.beq]
    rw [e]
    refine Ev.if_ (fun _ => Ev.now _) (fun _ => Ev.of_eq (ih () trivial) ?_)
    simp
theorem idxF_spec : ∀ (l : List Cell) (c : Cell) (i : Int), 0 ≤ i → (idxF l c i = -1 ∧ c ∉ l) ∨ (∃ j : Nat, j < l.length ∧ idxF l c i = i + (j : Int) ∧ l[j]? = some c ∧ ∀ q : Nat, q < j → l[q]? ≠ some c)
  | [], c, i, _ => .inl ⟨rfl, by simp⟩
  | a :: r, c, i, hi => by
    unfold idxF
    by_cases h : sameC a c = true
    · rw [if_pos h]
      exact .inr ⟨0, by simp, by simp, by simp [sameC_iff.1 h], fun q hq => by omega⟩
    · rw [if_neg h]
      have hne : a ≠ c := fun e => h (sameC_iff.2 e)
      rcases idxF_spec r c (i + 1) (by omega) with ⟨h1, h2⟩ | ⟨j, h1, h2, h3, h4⟩
      · exact .inl ⟨h1, by simp only [List.mem_cons, not_or]; exact ⟨fun e => hne e.symm, h2⟩⟩
      · refine .inr ⟨j + 1, by simpa using h1, by rw [h2]; simp; omega, by simpa using h3, fun q hq => ?_⟩
        cases q with
        | zero => simpa using hne
        | succ q => simpa using h4 q (by omega)
theorem idxC_spec (l : List Cell) (c : Cell) : (idxC l c = -1 ∧ c ∉ l) ∨ (∃ j : Nat, j < l.length ∧ idxC l c = (j : Int) ∧ l[j]? = some c ∧ ∀ q : Nat, q < j → l[q]? ≠ some c) := by
  rcases idxF_spec l c 0 (Int.le_refl _) with h | ⟨j, h1, h2, h3⟩
  · exact .inl h
  · exact .inr ⟨j, h1, by unfold idxC; rw [h2]; omega, h3⟩
theorem ltC_irrefl (a : Cell) : ¬ ltC a a := by unfold ltC; omega
theorem ltC_total {a b : Cell} (h : ¬ ltC a b) (h' : ¬ ltC b a) : a = b := by
  obtain ⟨a0, a1⟩ := a
  obtain ⟨b0, b1⟩ := b
  unfold ltC at *
  simp only [S59.mk.injEq]
  simp only at h h'
  omega
instance (priority := low) : DecidableEq Cell := fun a b => decidable_of_iff (sameC a b = true) sameC_iff
def formC (l : List Cell) (t : Int) : List Cell := normalL (sortC (l.map (turnD t)))
def cmpL : List Cell → List Cell → Int
  | [], _ => 0
  | _ :: _, [] => 0
  | a :: r, b :: s => if ltC a b then -1 else if ltC b a then 1 else cmpL r s
def cmpS (a b : List Cell) : Int := if a.length = b.length then cmpL a b else if a.length < b.length then -1 else 1
theorem cmpL_zero : ∀ (a b : List Cell), a.length = b.length → (cmpL a b = 0 ↔ a = b)
  | [], b, h => by
    have : b = [] := List.length_eq_zero_iff.1 h.symm
    simp [cmpL, this]
  | a :: r, [], h => by simp at h
  | a :: r, b :: s, h => by
    unfold cmpL
    by_cases h1 : ltC a b
    · rw [if_pos h1]
      have : a ≠ b := fun e => ltC_irrefl b (e ▸ h1)
      simp [this]
    · rw [if_neg h1]
      by_cases h2 : ltC b a
      · rw [if_pos h2]
        have : a ≠ b := fun e => ltC_irrefl b (e ▸ h2)
        simp [this]
      · rw [if_neg h2, cmpL_zero r s (by simpa using h)]
        simp [ltC_total h1 h2]
theorem cmpS_zero (a b : List Cell) : cmpS a b = 0 ↔ a = b := by
  unfold cmpS
  by_cases h : a.length = b.length
  · rw [if_pos h]; exact cmpL_zero a b h
  · rw [if_neg h]
    have : a ≠ b := fun e => h (by rw [e])
    split <;> simp [this]
theorem specCompare_ev (a b : List Cell) (ha : small a) : Ev (fun k => spec_CompareShapes.f k a b) (cmpS a b) := by
  unfold spec_CompareShapes.f cmpS
  by_cases hl : a.length = b.length
  · rw [if_pos hl]
    refine Ev.pos (by omega) ?_
    refine loop_list a (fun k i (_ : Unit) => spec_CompareShapes.l0 k a b i) (fun pre suf _ => cmpL suf (b.drop pre.length)) (fun _ _ => True) ?_ ?_ () trivial
    · intro _ _
      simp only [spec_CompareShapes.l0, len_lt, if_false]
      exact Ev.of_eq (Ev.now _) (by simp [cmpL])
    · intro pre c suf _ hx _ ih
      have hp := pre_len hx
      have hpb : pre.length < b.length := by omega
      have hlt : ((pre.length : Int) < (b.length : Int)) = True := by simp; omega
      have eb : rd_T59 b (pre.length : Int) = b[pre.length] := by
        unfold rd_T59
        rw [List.getD_eq_getElem?_getD, Int.toNat_natCast, List.getElem?_eq_getElem hpb]
        rfl
      simp only [spec_CompareShapes.l0, pre_lt hx, pre_0, if_true, hlt, at_pre hx, pre_w hx ha, eb, l02Less_eq, Option.bind_some]
      rw [List.drop_eq_getElem_cons hpb, cmpL]
      have hih := ih () trivial
      rw [List.length_append, List.length_singleton] at hih
      generalize b.drop (pre.length + 1) = R at hih ⊢
      generalize b[pre.length] = d at hih ⊢
      by_cases h1 : ltC c d
      · have h1' : c.f1 < d.f1 ∨ c.f1 = d.f1 ∧ c.f0 < d.f0 := h1
        rw [if_pos h1]
        exact Ev.pos (by simpa using h1') (Ev.now _)
      · have h1' : ¬ (c.f1 < d.f1 ∨ c.f1 = d.f1 ∧ c.f0 < d.f0) := h1
        rw [if_neg h1]
        refine Ev.neg (by simpa using h1') ?_
        by_cases h2 : ltC d c
        · have h2' : d.f1 < c.f1 ∨ d.f1 = c.f1 ∧ d.f0 < c.f0 := h2
          rw [if_pos h2]
          exact Ev.pos (by simpa using h2') (Ev.now _)
        · have h2' : ¬ (d.f1 < c.f1 ∨ d.f1 = c.f1 ∧ d.f0 < c.f0) := h2
          rw [if_neg h2]
          exact Ev.neg (by simpa using h2') hih
  · rw [if_neg hl]
    refine Ev.neg (by omega) ?_
    by_cases h : a.length < b.length
    · rw [if_pos h]; exact Ev.pos (by omega) (Ev.now _)
    · rw [if_neg h]; exact Ev.neg (by omega) (Ev.now _)
theorem at_preL2 {xs pre suf : List (List Cell)} {c : List Cell} (h : xs = pre ++ c :: suf) : rd_L2 xs (pre.length : Int) = c := by
  subst h; exact getD_at pre suf c _
theorem cmpV_ltC (a b : Cell) : cmpV a b = if ltC a b then -1 else if ltC b a then 1 else 0 := by
  unfold cmpV cI ltC
  repeat' split
  all_goals omega
theorem ordL_eq : ∀ a b : List Cell, ordL a b = cmpL a b
  | [], _ => by simp [ordL, cmpL]
  | _ :: _, [] => by simp [ordL, cmpL]
  | a :: r, b :: s => by
    unfold ordL cmpL
    rw [cmpV_ltC, ordL_eq r s]
    by_cases h1 : ltC a b
    · rw [if_pos h1, if_pos h1, if_neg (by omega)]
    · rw [if_neg h1, if_neg h1]
      by_cases h2 : ltC b a
      · rw [if_pos h2, if_pos h2, if_neg (by omega)]
      · rw [if_neg h2, if_neg h2, if_pos rfl]
theorem ordS_eq (a b : List Cell) : ordS a b = cmpS a b := by unfold ordS cmpS; rw [ordL_eq]
theorem cmpS_self (a : List Cell) : cmpS a a = 0 := (cmpS_zero a a).2 rfl
theorem cmpS_anti (a b : List Cell) : cmpS b a = -cmpS a b := by rw [← ordS_eq, ← ordS_eq]; exact ordS_anti a b
theorem cmpS_trans {a b c : List Cell} (h1 : cmpS a b ≤ 0) (h2 : cmpS b c ≤ 0) : cmpS a c ≤ 0 := by
  rw [← ordS_eq] at *
  exact ordS_trans h1 h2
theorem cmpS_lt_trans {a b c : List Cell} (h1 : cmpS a b < 0) (h2 : cmpS b c < 0) : cmpS a c < 0 := by
  have h3 := cmpS_trans (a := a) (b := b) (c := c) (by omega) (by omega)
  by_cases e : cmpS a c = 0
  · have := (cmpS_zero a c).1 e
    subst this
    have := cmpS_anti a b
    omega
  · omega
def asc (l : List (List Cell)) : Prop := l.Pairwise fun a b => cmpS a b < 0
theorem asc_eq : ∀ (a b : List (List Cell)), asc a → asc b → (∀ x, x ∈ a ↔ x ∈ b) → a = b
  | [], [], _, _, _ => rfl
  | [], b :: s, _, _, h => absurd ((h b).2 List.mem_cons_self) (by simp)
  | a :: r, [], _, _, h => absurd ((h a).1 List.mem_cons_self) (by simp)
  | a :: r, b :: s, ha, hb, h => by
    obtain ⟨h1, h2⟩ := List.pairwise_cons.1 ha
    obtain ⟨h3, h4⟩ := List.pairwise_cons.1 hb
    have e : a = b := by
      rcases List.mem_cons.1 ((h a).1 List.mem_cons_self) with e | e
      · exact e
      · rcases List.mem_cons.1 ((h b).2 List.mem_cons_self) with e' | e'
        · exact e'.symm
        · have := h1 b e'
          have := h3 a e
          have := cmpS_anti a b
          omega
    subst e
    congr 1
    refine asc_eq r s h2 h4 fun x => ⟨fun hx => ?_, fun hx => ?_⟩
    · rcases List.mem_cons.1 ((h x).1 (List.mem_cons_of_mem _ hx)) with e | e
      · have := h1 x hx
        rw [e, cmpS_self] at this
        omega
      · exact e
    · rcases List.mem_cons.1 ((h x).2 (List.mem_cons_of_mem _ hx)) with e | e
      · have := h3 x hx
        rw [e, cmpS_self] at this
        omega
      · exact e
theorem sortS_sorted (l : List (List Cell)) : (sortS l).Pairwise fun a b => cmpS a b ≤ 0 := by
  have := List.pairwise_mergeSort (le := fun x y : List Cell => !Go.Proofs.ltOf ordS y x) (fun a b c h1 h2 => by
    simp only [Bool.not_eq_true'] at *
    exact swoS.ntrans c b a h2 h1) (fun a b => by
    rw [Bool.or_eq_true]
    by_cases e : Go.Proofs.ltOf ordS b a = true
    · right
      simp only [Bool.not_eq_true']
      rw [ltS_iff]
      unfold Go.Proofs.ltOf at e
      rw [decide_eq_true_eq] at e
      rw [ordS_anti]
      omega
    · left
      simpa using e) l
  refine this.imp fun {a b} h => ?_
  simp only [Bool.not_eq_true'] at h
  rw [ltS_iff, ordS_eq] at h
  have := cmpS_anti a b
  omega
theorem sortS_mem {l : List (List Cell)} {x : List Cell} : x ∈ sortS l ↔ x ∈ l := (List.mergeSort_perm _ _).mem_iff
theorem compG_mem {β : Type} [DecidableEq β] : ∀ (l : List β) (p x : β), x ∈ compG p l ∨ x = p ↔ x ∈ l ∨ x = p
  | [], p, x => by simp [compG]
  | a :: r, p, x => by
    have ih := compG_mem r a x
    rw [compG]
    by_cases h : a = p
    · subst h
      rw [if_pos rfl, ih, List.mem_cons]
      constructor
      · rintro (h1 | h1)
        · exact .inl (.inr h1)
        · exact .inr h1
      · rintro ((h1 | h1) | h1)
        · exact .inr h1
        · exact .inl h1
        · exact .inr h1
    · rw [if_neg h, List.mem_cons, List.mem_cons]
      constructor
      · rintro ((h1 | h1) | h1)
        · exact .inl (.inl h1)
        · rcases ih.1 (.inl h1) with h2 | h2
          · exact .inl (.inr h2)
          · exact .inl (.inl h2)
        · exact .inr h1
      · rintro ((h1 | h1) | h1)
        · exact .inl (.inl h1)
        · rcases ih.2 (.inl h1) with h2 | h2
          · exact .inl (.inr h2)
          · exact .inl (.inl h2)
        · exact .inr h1
theorem compF_mem {β : Type} [DecidableEq β] {l : List β} {x : β} : x ∈ compF l ↔ x ∈ l := by
  cases l with
  | nil => simp [compF]
  | cons a r =>
    have := compG_mem r a x
    rw [compF, List.mem_cons, List.mem_cons]
    constructor
    · rintro (h | h)
      · exact .inl h
      · rcases this.1 (.inl h) with h | h
        · exact .inr h
        · exact .inl h
    · rintro (h | h)
      · exact .inl h
      · rcases this.2 (.inl h) with h | h
        · exact .inr h
        · exact .inl h
theorem compG_asc : ∀ (l : List (List Cell)) (p : List Cell), (p :: l).Pairwise (fun a b => cmpS a b ≤ 0) → asc (p :: compG p l)
  | [], p, _ => by simp [compG, asc]
  | a :: r, p, h => by
    obtain ⟨h1, h2⟩ := List.pairwise_cons.1 h
    have ih := compG_asc r a h2
    rw [compG]
    by_cases e : a = p
    · subst e
      rw [if_pos rfl]
      exact ih
    · rw [if_neg e]
      have hpa : cmpS p a < 0 := by
        have := h1 a List.mem_cons_self
        have hne : cmpS p a ≠ 0 := fun h => e ((cmpS_zero p a).1 h).symm
        omega
      refine List.pairwise_cons.2 ⟨fun b hb => ?_, ih⟩
      rcases List.mem_cons.1 hb with rfl | hb
      · exact hpa
      · exact cmpS_lt_trans hpa ((List.pairwise_cons.1 ih).1 b hb)
theorem compF_asc {l : List (List Cell)} (h : l.Pairwise fun a b => cmpS a b ≤ 0) : asc (compF l) := by
  cases l with
  | nil => exact List.Pairwise.nil
  | cons a r => rw [compF]; exact compG_asc r a h
def tidyL (l : List (List Cell)) : List (List Cell) := compF (sortS l)
theorem tidyL_mem {l : List (List Cell)} {x : List Cell} : x ∈ tidyL l ↔ x ∈ l := compF_mem.trans sortS_mem
theorem tidyL_asc (l : List (List Cell)) : asc (tidyL l) := compF_asc (sortS_sorted l)
theorem tidyL_len (l : List (List Cell)) : (tidyL l).length ≤ l.length := by
  refine Nat.le_trans (compF_len _) (Nat.le_of_eq ?_)
  exact (List.mergeSort_perm _ _).length_eq
theorem implTidy_eq (l : List (List Cell)) (h0 : 0 < l.length) (h1 : l.length < 4611686018427387904) : impl_tidyShapes.f l = some (tidyL l) := by
  unfold impl_tidyShapes.f
  rw [if_pos ⟨h0, h1⟩]
  rfl
def insS (x : List Cell) : List (List Cell) → List (List Cell)
  | [] => [x]
  | a :: r => if cmpS x a < 0 then x :: a :: r else a :: insS x r
theorem insS_mem (x : List Cell) : ∀ (l : List (List Cell)) (y : List Cell), y ∈ insS x l ↔ y = x ∨ y ∈ l
  | [], y => by simp [insS]
  | a :: r, y => by
    unfold insS
    split
    · simp
    · rw [List.mem_cons, insS_mem x r y, List.mem_cons]
      constructor
      · rintro (h | h | h)
        · exact .inr (.inl h)
        · exact .inl h
        · exact .inr (.inr h)
      · rintro (h | h | h)
        · exact .inr (.inl h)
        · exact .inl h
        · exact .inr (.inr h)
theorem insS_len (x : List Cell) : ∀ l : List (List Cell), (insS x l).length = l.length + 1
  | [] => rfl
  | a :: r => by unfold insS; split <;> simp [insS_len x r]
theorem insS_asc (x : List Cell) : ∀ l : List (List Cell), asc l → x ∉ l → asc (insS x l)
  | [], _, _ => by simp [insS, asc]
  | a :: r, h, hx => by
    obtain ⟨h1, h2⟩ := List.pairwise_cons.1 h
    unfold insS
    split
    · rename_i hc
      refine List.pairwise_cons.2 ⟨fun b hb => ?_, h⟩
      rcases List.mem_cons.1 hb with rfl | hb
      · exact hc
      · exact cmpS_lt_trans hc (h1 b hb)
    · rename_i hc
      refine List.pairwise_cons.2 ⟨fun b hb => ?_, insS_asc x r h2 (fun e => hx (List.mem_cons_of_mem _ e))⟩
      rcases (insS_mem x r b).1 hb with rfl | hb
      · have h3 : cmpS b a ≠ 0 := fun e => hx (by rw [(cmpS_zero b a).1 e]; exact List.mem_cons_self)
        have := cmpS_anti b a
        omega
      · exact h1 b hb
def addL (l : List (List Cell)) (x : List Cell) : List (List Cell) := if x ∈ l then l else insS x l
theorem addL_mem {l : List (List Cell)} {x y : List Cell} : y ∈ addL l x ↔ y = x ∨ y ∈ l := by
  unfold addL
  by_cases h : x ∈ l
  · rw [if_pos h]
    exact ⟨.inr, fun h' => h'.elim (fun e => e ▸ h) id⟩
  · rw [if_neg h]
    exact insS_mem x l y
theorem addL_asc {l : List (List Cell)} {x : List Cell} (h : asc l) : asc (addL l x) := by
  unfold addL
  by_cases hx : x ∈ l
  · rw [if_pos hx]; exact h
  · rw [if_neg hx]; exact insS_asc x l h hx
theorem addL_len (l : List (List Cell)) (x : List Cell) : (addL l x).length ≤ l.length + 1 := by
  unfold addL
  split
  · omega
  · rw [insS_len]; exact Nat.le_refl _
theorem specAdd_ev (l : List (List Cell)) (x : List Cell) (hl : l.length ≤ 1000000000) (hx_ : small x) : Ev (fun k => spec_l03Add.f k l x) (addL l x) := by
  have hs : small l := by unfold small; omega
  unfold spec_l03Add.f
  have key := loop_list l (fun k i (s : List (List Cell) × Bool) => spec_l03Add.l0 k l x s.1 s.2 i) (fun pre suf s => if x ∈ suf then l else if s.2 = true then s.1 ++ suf else s.1 ++ insS x suf) (fun pre s => s.1.length ≤ pre.length + 1 ∧ (s.2 = false → s.1.length ≤ pre.length)) ?_ ?_ ([], false) ⟨by simp, fun _ => by simp⟩
  · refine Ev.of_eq key ?_
    simp [addL]
  · rintro ⟨s, b⟩ ⟨hi, hj⟩
    simp only at hi hj
    simp only [spec_l03Add.l0, len_lt, if_false]
    cases b
    · refine Ev.neg (by simp) (Ev.pos (by omega) (Ev.of_eq (Ev.now _) ?_))
      simp [insS]
    · refine Ev.pos rfl (Ev.of_eq (Ev.now _) ?_)
      simp
  · rintro pre c suf ⟨s, b⟩ hx ⟨hi, hj⟩ ih
    have hp := pre_len hx
    simp only at hi hj
    simp only [spec_l03Add.l0, pre_lt hx, pre_0, if_true, at_preL2 hx, pre_w hx hs]
    refine Ev.bind (specCompare_ev x c hx_) ?_
    by_cases h0 : cmpS x c = 0
    · have e := (cmpS_zero x c).1 h0
      refine Ev.pos h0 (Ev.of_eq (Ev.now _) ?_)
      simp [e]
    · have hne : x ≠ c := fun e => h0 ((cmpS_zero x c).2 e)
      refine Ev.neg h0 ?_
      by_cases h1 : cmpS x c < 0
      · refine Ev.pos h1 ?_
        cases b
        · refine Ev.neg (by simp) (Ev.pos (by omega) ?_)
          have hj' := hj rfl
          refine Ev.pos (by simp; omega) (Ev.of_eq (ih ((s ++ [x]) ++ [c], true) ⟨by simp; omega, fun h => by cases h⟩) ?_)
          simp [insS, h1, hne]
        · refine Ev.pos rfl (Ev.pos (by omega) (Ev.of_eq (ih (s ++ [c], true) ⟨by simp; omega, fun h => by cases h⟩) ?_))
          simp [hne]
      · refine Ev.neg h1 (Ev.pos (by omega) (Ev.of_eq (ih (s ++ [c], b) ⟨by simp; omega, fun h => by have := hj h; simp; omega⟩) ?_))
        cases b
        · simp [insS, h1, hne]
        · simp [hne]
def insC (c : Cell) : List Cell → List Cell
  | [] => [c]
  | a :: r => if ltC c a then c :: a :: r else a :: insC c r
theorem insC_perm (c : Cell) : ∀ l : List Cell, (insC c l).Perm (c :: l)
  | [] => List.Perm.refl _
  | a :: r => by
    unfold insC
    split
    · exact List.Perm.refl _
    · exact ((insC_perm c r).cons a).trans (List.Perm.swap c a r)
theorem insC_sorted (c : Cell) : ∀ l : List Cell, (l.Pairwise fun a b => ¬ ltC b a) → (insC c l).Pairwise fun a b => ¬ ltC b a
  | [], _ => by simp [insC]
  | a :: r, h => by
    obtain ⟨h1, h2⟩ := List.pairwise_cons.1 h
    unfold insC
    split
    · rename_i hc
      refine List.pairwise_cons.2 ⟨fun b hb => ?_, h⟩
      rcases List.mem_cons.1 hb with rfl | hb
      · unfold ltC at *; omega
      · have := h1 b hb
        unfold ltC at *; omega
    · rename_i hc
      refine List.pairwise_cons.2 ⟨fun b hb => ?_, insC_sorted c r h2⟩
      rcases List.mem_cons.1 ((insC_perm c r).mem_iff.1 hb) with rfl | hb
      · exact hc
      · exact h1 b hb
theorem specInsert_ev (l : List Cell) (c : Cell) (hl : l.length ≤ 1048576) : Ev (fun k => spec_l02Insert.f k l c.f0 c.f1) (insC c l) := by
  have hs : small l := by unfold small; omega
  unfold spec_l02Insert.f
  have := loop_list l (fun k i (s : List Cell × Bool) => spec_l02Insert.l0 k l s.1 s.2 i c.f0 c.f1) (fun pre suf s => if s.2 = true then s.1 ++ suf else s.1 ++ insC c suf) (fun pre s => s.1.length ≤ pre.length + 1 ∧ (s.2 = false → s.1.length = pre.length)) ?_ ?_ ([], false) ⟨by simp, fun _ => rfl⟩
  · simpa using this
  · rintro ⟨s, b⟩ ⟨h1, h2⟩
    simp only at h1 h2
    simp only [spec_l02Insert.l0, len_lt, if_false]
    cases b
    · refine Ev.neg (by simp) (Ev.pos (by omega) (Ev.of_eq (Ev.now _) ?_))
      simp [insC]
    · refine Ev.pos rfl (Ev.of_eq (Ev.now _) ?_)
      simp
  · rintro pre d suf ⟨s, b⟩ hx ⟨h1, h2⟩ ih
    have hp := pre_len hx
    simp only at h1 h2
    simp only [spec_l02Insert.l0, pre_lt hx, pre_0, if_true, at_pre hx, pre_w hx hs]
    cases b
    · refine Ev.neg (by simp) ?_
      simp only [l02Less_eq, Option.bind_some]
      have h2' := h2 rfl
      by_cases hd : ltC c d
      · have hd' : c.f1 < d.f1 ∨ c.f1 = d.f1 ∧ c.f0 < d.f0 := hd
        refine Ev.pos (by simpa using hd') (Ev.pos (by omega) ?_)
        refine Ev.pos (by simp; omega) (Ev.of_eq (ih ((s ++ [(⟨c.f0, c.f1⟩ : Cell)]) ++ [(⟨d.f0, d.f1⟩ : Cell)], true) ⟨by simp; omega, fun h => by cases h⟩) ?_)
        simp [insC, hd]
      · have hd' : ¬ (c.f1 < d.f1 ∨ c.f1 = d.f1 ∧ c.f0 < d.f0) := hd
        refine Ev.neg (by simpa using hd') (Ev.pos (by omega) (Ev.of_eq (ih (s ++ [(⟨d.f0, d.f1⟩ : Cell)], false) ⟨by simp; omega, fun _ => by simp; omega⟩) ?_))
        simp [insC, hd]
    · refine Ev.pos rfl (Ev.pos (by omega) (Ev.of_eq (ih (s ++ [(⟨d.f0, d.f1⟩ : Cell)], true) ⟨by simp; omega, fun h => by cases h⟩) ?_))
      simp
def insAll : List Cell → List Cell → List Cell
  | acc, [] => acc
  | acc, c :: r => insAll (insC c acc) r
theorem insAll_spec : ∀ (l acc : List Cell), (acc.Pairwise fun a b => ¬ ltC b a) → (insAll acc l).Perm (acc ++ l) ∧ (insAll acc l).Pairwise fun a b => ¬ ltC b a
  | [], acc, h => ⟨by simp [insAll], h⟩
  | c :: r, acc, h => by
    obtain ⟨h1, h2⟩ := insAll_spec r (insC c acc) (insC_sorted c acc h)
    refine ⟨h1.trans ?_, h2⟩
    refine ((insC_perm c acc).append_right r).trans ?_
    exact List.perm_middle.symm
theorem specSortI_ev (l : List Cell) (hl : l.length ≤ 1048576) : Ev (fun k => spec_l02Sort.f k l) (insAll [] l) := by
  have hs : small l := by unfold small; omega
  unfold spec_l02Sort.f
  refine loop_list l (fun k i (s : List Cell) => spec_l02Sort.l0 k l s i) (fun pre suf s => insAll s suf) (fun pre s => s.length = pre.length) ?_ ?_ [] rfl
  · intro s _
    simp only [spec_l02Sort.l0, len_lt, if_false]
    exact Ev.now _
  · intro pre c suf s hx hi ih
    have hp := pre_len hx
    simp only [spec_l02Sort.l0, pre_lt hx, pre_0, if_true, at_pre hx, pre_w hx hs]
    refine Ev.bind (specInsert_ev s c (by omega)) (ih _ ?_)
    rw [(insC_perm c s).length_eq]
    simp [hi]
theorem insAll_eq (l : List Cell) : insAll [] l = sortC l := by
  obtain ⟨h1, h2⟩ := insAll_spec l [] List.Pairwise.nil
  exact (sortC_eq (by simpa using h1) h2).symm
theorem specSort_ev (l : List Cell) (hl : l.length ≤ 1048576) : Ev (fun k => spec_l02Sort.f k l) (sortC l) := by
  rw [← insAll_eq]
  exact specSortI_ev l hl
theorem formC_len (l : List Cell) (t : Int) : (formC l t).length = l.length := by unfold formC; rw [normalL_len, sortC_len]; simp
theorem implForm8_ev (l : List Cell) (t : Int) (ht : 0 ≤ t) (hl : l.length ≤ 1048576) (h0 : 0 < l.length) : Ev (fun k => impl_form.f k l t) (formC l t) := by
  have hs : small l := by unfold small; omega
  unfold impl_form.f formC
  refine Ev.pos (by omega) (Ev.pos (by omega) ?_)
  have := loop_list l (fun k i (s : List Cell) => impl_form.l0 k t s l (l.length : Int) i) (fun pre suf s => normalL (sortC (s ++ suf.map (turnD t)))) (fun pre s => s.length = pre.length) ?_ ?_ [] rfl
  · simpa using this
  · intro s hi
    have hi' : s.length = l.length := hi
    simp only [impl_form.l0, len_lt, if_false, implSorted_eq s (by omega) (by omega), Option.bind_some]
    exact Ev.bind (implNormal_ev _ (by rw [sortC_len]; omega) (by rw [sortC_len]; omega)) (Ev.of_eq (Ev.now _) (by simp))
  · intro pre c suf s hx hi ih
    have hp := pre_len hx
    simp only [impl_form.l0, pre_lt hx, pre_0, if_true, at_pre hx, pre_w hx hs]
    refine Ev.bind (implTurn_ev c t ht) (Ev.pos (by omega) (Ev.of_eq (ih (s ++ [turnD t c]) (by simp [hi])) (by simp)))
theorem specForm8_ev (l : List Cell) (t : Int) (ht : 0 ≤ t) (hl : l.length ≤ 1048576) (h0 : 0 < l.length) : Ev (fun k => spec_l03Form.f k l t) (formC l t) := by
  have hs : small l := by unfold small; omega
  unfold spec_l03Form.f formC
  have := loop_list l (fun k i (s : List Cell) => spec_l03Form.l0 k l t s i) (fun pre suf s => normalL (sortC (s ++ suf.map (turnD t)))) (fun pre s => s.length = pre.length) ?_ ?_ [] rfl
  · simpa using this
  · intro s hi
    have hi' : s.length = l.length := hi
    simp only [spec_l03Form.l0, len_lt, if_false]
    exact Ev.bind (specSort_ev s (by omega)) (Ev.bind (specNormal_ev _ (by rw [sortC_len]; omega) (by rw [sortC_len]; omega)) (Ev.of_eq (Ev.now _) (by simp)))
  · intro pre c suf s hx hi ih
    have hp := pre_len hx
    simp only [spec_l03Form.l0, pre_lt hx, pre_0, if_true, at_pre hx, pre_w hx hs]
    refine Ev.bind (specTurn_ev c t ht) (Ev.pos (by omega) (Ev.of_eq (ih (s ++ [turnD t c]) (by simp [hi])) (by simp)))
def formsC (l : List Cell) : Nat → Int → List (List Cell)
  | 0, _ => []
  | n + 1, t => formC l t :: formsC l n (t + 1)
theorem formsC_len (l : List Cell) : ∀ (n : Nat) (t : Int), (formsC l n t).length = n
  | 0, _ => rfl
  | n + 1, t => by unfold formsC; rw [List.length_cons, formsC_len l n]
theorem formsC_mem (l : List Cell) : ∀ (n : Nat) (t : Int), ∀ x ∈ formsC l n t, x.length = l.length
  | 0, _, x, h => by simp [formsC] at h
  | n + 1, t, x, h => by
    unfold formsC at h
    rcases List.mem_cons.1 h with rfl | h
    · exact formC_len l t
    · exact formsC_mem l n _ x h
theorem implForms8_l (l : List Cell) (m : Int) (hm : m ≤ 8) (hl : l.length ≤ 1048576) (h0 : 0 < l.length) : ∀ (n : Nat) (t : Int) (acc : List (List Cell)), 0 ≤ t → t + (n : Int) = m → acc.length + n ≤ 8 → Ev (fun k => impl_forms.l0 k l acc m t) (acc ++ formsC l n t)
  | 0, t, acc, h1, h2, h3 => by
    refine Ev.succ ?_
    simp only [impl_forms.l0]
    exact Ev.neg (by omega) (Ev.of_eq (Ev.now _) (by simp [formsC]))
  | n + 1, t, acc, h1, h2, h3 => by
    refine Ev.succ ?_
    simp only [impl_forms.l0]
    have ew : wrap64 (t + 1) = t + 1 := w64 (by omega) (by omega)
    refine Ev.pos (by omega) (Ev.bind (implForm8_ev l t h1 hl h0) (Ev.pos (by omega) ?_))
    simp only [ew]
    refine Ev.of_eq (implForms8_l l m hm hl h0 n (t + 1) (acc ++ [formC l t]) (by omega) (by omega) (by simp; omega)) ?_
    simp [formsC]
def addsC : List (List Cell) → List (List Cell) → List (List Cell)
  | acc, [] => acc
  | acc, x :: r => addsC (addL acc x) r
theorem addsC_mem {y : List Cell} : ∀ (r acc : List (List Cell)), y ∈ addsC acc r ↔ y ∈ acc ∨ y ∈ r
  | [], acc => by simp [addsC]
  | x :: r, acc => by
    rw [addsC, addsC_mem r, addL_mem, List.mem_cons]
    constructor
    · rintro ((h | h) | h)
      · exact .inr (.inl h)
      · exact .inl h
      · exact .inr (.inr h)
    · rintro (h | h | h)
      · exact .inl (.inr h)
      · exact .inl (.inl h)
      · exact .inr h
theorem addsC_asc : ∀ (r acc : List (List Cell)), asc acc → asc (addsC acc r)
  | [], acc, h => h
  | x :: r, acc, h => addsC_asc r _ (addL_asc h)
theorem specForms8_l (l : List Cell) (m : Int) (hm : m ≤ 8) (hl : l.length ≤ 1048576) (h0 : 0 < l.length) : ∀ (n : Nat) (t : Int) (acc : List (List Cell)), 0 ≤ t → t + (n : Int) = m → acc.length + n ≤ 8 → Ev (fun k => spec_l03Forms.l0 k l m acc t) (addsC acc (formsC l n t))
  | 0, t, acc, h1, h2, h3 => by
    refine Ev.succ ?_
    simp only [spec_l03Forms.l0]
    exact Ev.neg (by omega) (Ev.of_eq (Ev.now _) (by simp [formsC, addsC]))
  | n + 1, t, acc, h1, h2, h3 => by
    refine Ev.succ ?_
    simp only [spec_l03Forms.l0]
    have ew : wrap64 (t + 1) = t + 1 := w64 (by omega) (by omega)
    have hs : small (formC l t) := by unfold small; rw [formC_len]; omega
    refine Ev.pos (by omega) (Ev.bind (specForm8_ev l t h1 hl h0) (Ev.bind (specAdd_ev acc _ (by omega) hs) ?_))
    simp only [ew]
    have := addL_len acc (formC l t)
    exact specForms8_l l m hm hl h0 n (t + 1) _ (by omega) (by omega) (by omega)
def pieceF (l : List Cell) (b : Bool) : List (List Cell) := tidyL (formsC l (if b = true then 8 else 4) 0)
theorem pieceF_mem {l : List Cell} {b : Bool} : ∀ x ∈ pieceF l b, x.length = l.length := fun x hx => formsC_mem l _ _ x (tidyL_mem.1 hx)
theorem pieceF_len (l : List Cell) (b : Bool) : (pieceF l b).length ≤ 8 := by
  refine Nat.le_trans (tidyL_len _) ?_
  rw [formsC_len]
  split <;> omega
theorem implPieceF_ev (l : List Cell) (n : Int) (b : Bool) (hl : l.length ≤ 1048576) (h0 : 0 < l.length) : Ev (fun k => impl_formsOf.f k l n b) (pieceF l b) := by
  unfold impl_formsOf.f pieceF
  have key (m : Nat) (hm : m ≤ 8) (hm1 : 1 ≤ m) : Ev (fun k => (impl_forms.f k l (m : Int)).bind fun t => (impl_tidyShapes.f t).bind fun s => some s) (tidyL (formsC l m 0)) := by
    have h1 : Ev (fun k => impl_forms.f k l (m : Int)) (formsC l m 0) := by
      unfold impl_forms.f
      exact Ev.of_eq (implForms8_l l m (by omega) hl h0 m 0 [] (by omega) (by omega) (by simp; omega)) (by simp)
    refine Ev.bind h1 ?_
    rw [implTidy_eq _ (by rw [formsC_len]; omega) (by rw [formsC_len]; omega)]
    exact Ev.now _
  cases b with
  | true => exact Ev.pos rfl (key 8 (by omega) (by omega))
  | false => exact Ev.neg (by simp) (key 4 (by omega) (by omega))
theorem specPieceF_ev (l : List Cell) (n : Int) (b : Bool) (hl : l.length ≤ 1048576) (h0 : 0 < l.length) : Ev (fun k => spec_l11Forms.f k l n b) (pieceF l b) := by
  unfold spec_l11Forms.f pieceF
  have key (m : Nat) (hm : m ≤ 8) (hm1 : 1 ≤ m) : Ev (fun k => (spec_l03Forms.f k l (m : Int)).bind fun t => some t) (tidyL (formsC l m 0)) := by
    have h1 : Ev (fun k => spec_l03Forms.f k l (m : Int)) (addsC [] (formsC l m 0)) := by
      unfold spec_l03Forms.f
      exact specForms8_l l m (by omega) hl h0 m 0 [] (by omega) (by omega) (by simp; omega)
    have e : addsC [] (formsC l m 0) = tidyL (formsC l m 0) := by
      refine asc_eq _ _ (addsC_asc _ _ List.Pairwise.nil) (tidyL_asc _) fun x => ?_
      rw [addsC_mem, tidyL_mem]
      simp
    rw [e] at h1
    exact Ev.bind h1 (Ev.now _)
  cases b with
  | true => exact Ev.pos rfl (key 8 (by omega) (by omega))
  | false => exact Ev.neg (by simp) (key 4 (by omega) (by omega))
theorem equalC_ev (a b : List Cell) (ha : small a) : Ev (fun k => impl_Cell_116.f k a b) (decide (a = b)) := by
  unfold impl_Cell_116.f
  by_cases hl : a.length = b.length
  · refine Ev.pos (by omega) ?_
    refine loop_list a (fun k i (_ : Unit) => impl_Cell_116.l0 k a b (a.length : Int) i) (fun pre suf _ => decide (suf = b.drop pre.length)) (fun _ _ => True) ?_ ?_ () trivial
    · intro _ _
      simp only [impl_Cell_116.l0, len_lt, if_false]
      refine Ev.of_eq (Ev.now _) ?_
      rw [hl, List.drop_length]
      simp
    · intro pre c suf _ hx _ ih
      have hp := pre_len hx
      have hpb : pre.length < b.length := by omega
      have hlt : ((pre.length : Int) < (b.length : Int)) = True := by simp; omega
      have eb : rd_T59 b (pre.length : Int) = b[pre.length] := by
        unfold rd_T59
        rw [List.getD_eq_getElem?_getD, Int.toNat_natCast, List.getElem?_eq_getElem hpb]
        rfl
      simp only [impl_Cell_116.l0, pre_lt hx, pre_0, if_true, hlt, at_pre hx, pre_w hx ha, eb]
      rw [List.drop_eq_getElem_cons hpb]
      by_cases he : c = b[pre.length]
      · refine Ev.neg (by rw [← he]; simp) (Ev.of_eq (ih () trivial) ?_)
        rw [List.length_append, List.length_singleton]
        generalize b.drop (pre.length + 1) = R
        rw [← he]
        simp only [List.cons.injEq, true_and]
      · refine Ev.pos ?_ (Ev.of_eq (Ev.now _) ?_)
        · refine Decidable.byContradiction fun h => he ?_
          generalize b[pre.length] = d at h
          obtain ⟨c0, c1⟩ := c
          obtain ⟨d0, d1⟩ := d
          simp at h
          simp [h]
        · generalize b.drop (pre.length + 1) = R
          simp only [List.cons.injEq, he, false_and, decide_false]
  · refine Ev.neg (by omega) (Ev.of_eq (Ev.now _) ?_)
    have : a ≠ b := fun e => hl (by rw [e])
    simp [this]
def meetF (a b : List (List Cell)) : Bool := a.any fun x => b.any fun y => decide (cmpS x y = 0)
theorem at_preSS {xs pre suf : List (List Cell)} {c : List Cell} (h : xs = pre ++ c :: suf) : rd_L2 xs (pre.length : Int) = c := by
  subst h; exact getD_at pre suf c _
theorem specAlike_ev (l : List Cell) (n : Int) (p : Bool) (m : List Cell) (q : Int) (b : Bool) (hl : l.length ≤ 1048576) (hm : m.length ≤ 1048576) (h0 : 0 < l.length) (h1 : 0 < m.length) : Ev (fun k => spec_l11Alike.f k l n p m q b) (meetF (pieceF l p) (pieceF m b)) := by
  unfold spec_l11Alike.f
  have s1 : small (pieceF l p) := by have := pieceF_len l p; unfold small; omega
  have s2 : small (pieceF m b) := by have := pieceF_len m b; unfold small; omega
  have sx : ∀ x ∈ pieceF l p, small x := fun x hx => by have := pieceF_mem x hx; unfold small; omega
  refine Ev.bind (specPieceF_ev l n p hl h0) (Ev.bind (specPieceF_ev m q b hm h1) ?_)
  generalize pieceF l p = A at s1 sx ⊢
  generalize pieceF m b = B at s2 ⊢
  refine loop_list A (fun k i (_ : Unit) => spec_l11Alike.l0 k A B i) (fun _ suf _ => meetF suf B) (fun _ _ => True) ?_ ?_ () trivial
  · intro _ _
    simp only [spec_l11Alike.l0, len_lt, if_false]
    exact Ev.of_eq (Ev.now _) (by simp [meetF])
  · intro pre x suf _ hx _ ih
    simp only [spec_l11Alike.l0, pre_lt hx, if_true]
    have := loop_list B (fun k j (_ : Unit) => spec_l11Alike.l1 k A B (pre.length : Int) j) (fun _ suf2 _ => (suf2.any fun y => decide (cmpS x y = 0)) || meetF suf B) (fun _ _ => True) ?_ ?_ () trivial
    · refine Ev.of_eq this ?_
      simp [meetF]
    · intro _ _
      simp only [spec_l11Alike.l1, len_lt, if_false, pre_w hx s1]
      exact Ev.of_eq (ih () trivial) (by simp)
    · intro pre2 y suf2 _ hx2 _ ih2
      simp only [spec_l11Alike.l1, pre_lt hx2, pre_lt hx, pre_0, if_true, at_preSS hx2, at_preSS hx, pre_w hx2 s2]
      refine Ev.bind (specCompare_ev x y (sx x (by rw [hx]; simp))) ?_
      by_cases hc : cmpS x y = 0
      · exact Ev.pos hc (Ev.of_eq (Ev.now _) (by simp [hc]))
      · exact Ev.neg hc (Ev.of_eq (ih2 () trivial) (by simp [hc]))
theorem all_someL {α : Type} {f : Nat → α → Option Bool} {g : α → Bool} : ∀ (l : List α), (∀ x ∈ l, Ev (fun k => f k x) (g x)) → ∃ n, ∀ k, n ≤ k → ∀ x ∈ l, f k x = some (g x)
  | [], _ => ⟨0, fun _ _ x hx => by simp at hx⟩
  | a :: r, h => by
    obtain ⟨n, hn⟩ := all_someL r fun x hx => h x (List.mem_cons_of_mem _ hx)
    obtain ⟨m, hm⟩ := h a List.mem_cons_self
    refine ⟨n + m, fun k hk x hx => ?_⟩
    rcases List.mem_cons.1 hx with rfl | hx
    · exact hm k (by omega)
    · exact hn k (by omega) x hx
theorem implAlike_ev (l : List Cell) (n : Int) (p : Bool) (m : List Cell) (q : Int) (b : Bool) (hl : l.length ≤ 1048576) (hm : m.length ≤ 1048576) (h0 : 0 < l.length) (h1 : 0 < m.length) : Ev (fun k => impl_alike.f k l n p m q b) (meetF (pieceF l p) (pieceF m b)) := by
  unfold impl_alike.f
  have s1 := pieceF_len l p
  have s2 := pieceF_len m b
  have sx : ∀ x ∈ pieceF l p, small x := fun x hx => by have := pieceF_mem x hx; unfold small; omega
  refine Ev.bind (implPieceF_ev m q b hm h1) (Ev.bind (implPieceF_ev l n p hl h0) ?_)
  generalize pieceF l p = A at s1 sx ⊢
  generalize pieceF m b = B at s2 ⊢
  obtain ⟨K, hK⟩ := all_someL (f := fun k (xy : List Cell × List Cell) => impl_Cell_116.f k xy.1 xy.2) (g := fun xy => decide (xy.1 = xy.2)) (A.flatMap fun x => B.map fun y => (x, y)) (fun xy hxy => by
    obtain ⟨x, hx, h⟩ := List.mem_flatMap.1 hxy
    obtain ⟨y, hy, rfl⟩ := List.mem_map.1 h
    exact Ev.of_eq (equalC_ev x y (sx x hx)) (by by_cases hh : x = y <;> simp [hh]))
  refine ⟨K, fun k hk => ?_⟩
  have h (x : List Cell) (hx : x ∈ A) (y : List Cell) (hy : y ∈ B) : impl_Cell_116.f k x y = some (decide (x = y)) :=
    hK k hk (x, y) (List.mem_flatMap.2 ⟨x, hx, List.mem_map.2 ⟨y, hy, rfl⟩⟩)
  show (if (B.length ≤ 1000000000000 ∧ A.length ≤ 1000000000000) ∧ (A.all fun a => B.all fun b => (impl_Cell_116.f k a b).isSome) = true then some (A.any fun a => B.any fun b => impl_Cell_116.f k a b == some true) else none) = _
  rw [if_pos ⟨⟨by omega, by omega⟩, List.all_eq_true.2 fun x hx => List.all_eq_true.2 fun y hy => by rw [h x hx y hy]; rfl⟩]
  congr 1
  unfold meetF
  rw [Bool.eq_iff_iff, List.any_eq_true, List.any_eq_true]
  constructor
  · rintro ⟨x, hx, e⟩
    obtain ⟨y, hy, e⟩ := List.any_eq_true.1 e
    rw [h x hx y hy] at e
    refine ⟨x, hx, List.any_eq_true.2 ⟨y, hy, ?_⟩⟩
    have : x = y := by simpa using e
    simp [(cmpS_zero x y).2 this]
  · rintro ⟨x, hx, e⟩
    obtain ⟨y, hy, e⟩ := List.any_eq_true.1 e
    have : x = y := (cmpS_zero x y).1 (by simpa using e)
    refine ⟨x, hx, List.any_eq_true.2 ⟨y, hy, ?_⟩⟩
    rw [h x hx y hy, decide_eq_true this]; rfl
end Go.Proofs.Ytfdfdifjkaaeoaa.L
end
section
namespace Go.Proofs.Ytfdfdifjkaaeoaa.L
open Go.RowKit Go.Proofs.YtfdfdifjkaaeoaaW.PrintWords Go.Proofs.YtfdfdifjkaaeoaaW.PrintLast Go.Proofs.YtfdfdifjkaaeoaaW.PrintMore Go.Proofs.Ytfdfdifjkaaeoaa.F
set_option linter.unusedVariables false
def aroundC (c : Cell) : List Cell := [⟨c.f0, wrap64 (c.f1 - 1)⟩, ⟨wrap64 (c.f0 - 1), c.f1⟩, ⟨wrap64 (c.f0 + 1), c.f1⟩, ⟨c.f0, wrap64 (c.f1 + 1)⟩]
theorem specAround_eq (c : Cell) : spec_l02Around.f c.f0 c.f1 = some (aroundC c) := rfl
theorem implAround_eq (c : Cell) : impl_around.f c.f0 c.f1 = some (aroundC c) := rfl
end Go.Proofs.Ytfdfdifjkaaeoaa.L
end
section
namespace Go.Proofs.Ytfdfdifjkaaeoaa.L
open Go.RowKit Go.Proofs.YtfdfdifjkaaeoaaW.PrintWords Go.Proofs.YtfdfdifjkaaeoaaW.PrintLast Go.Proofs.YtfdfdifjkaaeoaaW.PrintMore Go.Proofs.Ytfdfdifjkaaeoaa.F
set_option linter.unusedVariables false
set_option linter.unusedSimpArgs false
def visit1 (l : List Cell) (i : Int) (s : List Int × List Int) (d : Cell) : List Int × List Int :=
  if idxC l d ≥ 0 ∧ rd s.1 (idxC l d) < 0 then (s.1.set (idxC l d).toNat i, s.2 ++ [idxC l d]) else s
def visit (l : List Cell) (i : Int) (ds : List Cell) (s : List Int × List Int) : List Int × List Int := ds.foldl (visit1 l i) s
def negs (o : List Int) : Nat := o.countP fun x => decide (x < 0)
structure Fine (l : List Cell) (o q : List Int) : Prop where
  len : o.length = l.length
  rng : ∀ j ∈ q, 0 ≤ j ∧ j < (l.length : Int)
theorem idxC_lt (l : List Cell) (d : Cell) : idxC l d < (l.length : Int) := by
  rcases idxC_spec l d with ⟨h, _⟩ | ⟨j, h1, h2, _⟩
  · omega
  · omega
theorem rd_set (o : List Int) (j : Nat) (i : Int) (q : Int) (hj : j < o.length) : rd (o.set j i) q = if q.toNat = j then i else rd o q := by
  unfold rd
  rw [List.getD_eq_getElem?_getD, List.getD_eq_getElem?_getD]
  by_cases h : q.toNat = j
  · rw [if_pos h, h, List.getElem?_set_self hj]; rfl
  · rw [if_neg h, List.getElem?_set_ne (by omega)]
theorem negs_set (o : List Int) (j : Int) (i : Int) (h0 : 0 ≤ j) (h1 : j < (o.length : Int)) (h : rd o j < 0) (hi : 0 ≤ i) : negs (o.set j.toNat i) + 1 = negs o := by
  have hj : j.toNat < o.length := by omega
  have hr : o[j.toNat] < 0 := by
    unfold rd at h
    rw [List.getD_eq_getElem?_getD, List.getElem?_eq_getElem hj] at h
    exact h
  unfold negs
  have hpos : 0 < o.countP fun x => decide (x < 0) := List.countP_pos_iff.2 ⟨_, List.getElem_mem hj, by simpa using hr⟩
  rw [List.countP_set hj]
  have e1 : decide (i < 0) = false := decide_eq_false (by omega)
  have e2 : decide (o[j.toNat] < 0) = true := decide_eq_true hr
  simp only [e1, e2, if_true]
  simp
  omega
theorem visit1_fine {l : List Cell} {i : Int} (hi : 0 ≤ i) {s : List Int × List Int} (h : Fine l s.1 s.2) (d : Cell) :
    Fine l (visit1 l i s d).1 (visit1 l i s d).2 ∧ negs (visit1 l i s d).1 + (visit1 l i s d).2.length = negs s.1 + s.2.length ∧ s.2.length ≤ (visit1 l i s d).2.length ∧ ∀ j : Int, 0 ≤ rd s.1 j → 0 ≤ rd (visit1 l i s d).1 j := by
  unfold visit1
  by_cases hc : idxC l d ≥ 0 ∧ rd s.1 (idxC l d) < 0
  · rw [if_pos hc]
    have hlt := idxC_lt l d
    have hln := h.len
    refine ⟨⟨by simpa using h.len, fun j hj => ?_⟩, ?_, by simp, fun j hj => ?_⟩
    · rcases List.mem_append.1 hj with hj | hj
      · exact h.rng j hj
      · simp at hj; omega
    · have := negs_set s.1 (idxC l d) i hc.1 (by omega) hc.2 hi
      simp only [List.length_append, List.length_singleton]
      omega
    · simp only
      rw [rd_set _ _ _ _ (by omega)]
      split
      · exact hi
      · exact hj
  · rw [if_neg hc]
    exact ⟨h, rfl, Nat.le_refl _, fun _ h => h⟩
theorem visit_fine {l : List Cell} {i : Int} (hi : 0 ≤ i) : ∀ (ds : List Cell) {s : List Int × List Int}, Fine l s.1 s.2 →
    Fine l (visit l i ds s).1 (visit l i ds s).2 ∧ negs (visit l i ds s).1 + (visit l i ds s).2.length = negs s.1 + s.2.length ∧ s.2.length ≤ (visit l i ds s).2.length ∧ ∀ j : Int, 0 ≤ rd s.1 j → 0 ≤ rd (visit l i ds s).1 j
  | [], s, h => ⟨h, rfl, Nat.le_refl _, fun _ h => h⟩
  | d :: r, s, h => by
    obtain ⟨h1, h2, h3, h4⟩ := visit1_fine hi h d
    obtain ⟨h5, h6, h7, h8⟩ := visit_fine hi r h1
    exact ⟨h5, h6.trans h2, Nat.le_trans h3 h7, fun j hj => h8 j (h4 j hj)⟩
theorem visit_snoc (l : List Cell) (i : Int) (ds : List Cell) (d : Cell) (s : List Int × List Int) : visit l i (ds ++ [d]) s = visit1 l i (visit l i ds s) d := by
  simp [visit]
def bfs (nb : Cell → List Cell) (l : List Cell) (i : Int) : Nat → List Int → List Int → List Int
  | 0, o, _ => o
  | _ + 1, o, [] => o
  | n + 1, o, c :: q => bfs nb l i n (visit l i (nb (rd_T59 l c)) (o, q)).1 (visit l i (nb (rd_T59 l c)) (o, q)).2
theorem bfs_fine {nb : Cell → List Cell} {l : List Cell} {i : Int} (hi : 0 ≤ i) : ∀ (n : Nat) (o q : List Int), Fine l o q → (bfs nb l i n o q).length = l.length ∧ ∀ j : Int, 0 ≤ rd o j → 0 ≤ rd (bfs nb l i n o q) j
  | 0, o, q, h => ⟨h.len, fun _ h => h⟩
  | n + 1, o, [], h => ⟨h.len, fun _ h => h⟩
  | n + 1, o, c :: q, h => by
    have h' : Fine l o q := ⟨h.len, fun j hj => h.rng j (List.mem_cons_of_mem _ hj)⟩
    obtain ⟨h1, _, _, h4⟩ := visit_fine hi (nb (rd_T59 l c)) (s := (o, q)) h'
    obtain ⟨h5, h6⟩ := bfs_fine hi n _ _ h1
    exact ⟨h5, fun j hj => h6 j (h4 j hj)⟩
def partsF (nb : Cell → List Cell) (l : List Cell) : Int → List Cell → List Int → List Int
  | _, [], o => o
  | i, _ :: r, o => partsF nb l (i + 1) r (if rd o i ≥ 0 then o else bfs nb l i l.length (o.set i.toNat i) [i])
def partsR (nb : Cell → List Cell) (l : List Cell) : List Int := partsF nb l 0 l (List.replicate l.length (-1))
theorem step_fine {l : List Cell} {o : List Int} {i : Nat} (hl : o.length = l.length) (hi : i < l.length) (h : ¬ rd o (i : Int) ≥ 0) : Fine l (o.set i (i : Int)) [(i : Int)] ∧ negs (o.set i (i : Int)) + 1 ≤ l.length := by
  refine ⟨⟨by simpa using hl, fun j hj => by simp at hj; omega⟩, ?_⟩
  have h1 := negs_set o (i : Int) (i : Int) (by omega) (by omega) (by omega) (by omega)
  rw [Int.toNat_natCast] at h1
  have h2 : negs o ≤ o.length := List.countP_le_length
  omega
theorem step_next {nb : Cell → List Cell} {l : List Cell} {o : List Int} {i : Nat} (hl : o.length = l.length) (hi : i < l.length) (hd : ∀ j : Nat, j < i → 0 ≤ rd o (j : Int)) :
    (if rd o (i : Int) ≥ 0 then o else bfs nb l (i : Int) l.length (o.set i (i : Int)) [(i : Int)]).length = l.length ∧ ∀ j : Nat, j < i + 1 → 0 ≤ rd (if rd o (i : Int) ≥ 0 then o else bfs nb l (i : Int) l.length (o.set i (i : Int)) [(i : Int)]) (j : Int) := by
  by_cases h : rd o (i : Int) ≥ 0
  · rw [if_pos h]
    refine ⟨hl, fun j hj => ?_⟩
    by_cases e : j = i
    · exact e ▸ h
    · exact hd j (by omega)
  · rw [if_neg h]
    obtain ⟨h1, h2⟩ := step_fine hl hi h
    obtain ⟨h3, h4⟩ := bfs_fine (nb := nb) (i := (i : Int)) (by omega) l.length _ _ h1
    refine ⟨h3, fun j hj => h4 _ ?_⟩
    rw [rd_set _ _ _ _ (by omega), Int.toNat_natCast]
    split
    · omega
    · exact hd j (by omega)
theorem partsF_fine {nb : Cell → List Cell} {l : List Cell} : ∀ (r pre : List Cell) (o : List Int), l = pre ++ r → o.length = l.length → (∀ j : Nat, j < pre.length → 0 ≤ rd o (j : Int)) → (partsF nb l (pre.length : Int) r o).length = l.length ∧ ∀ j : Nat, j < l.length → 0 ≤ rd (partsF nb l (pre.length : Int) r o) (j : Int)
  | [], pre, o, h, hl, hd => by
    rw [List.append_nil] at h
    subst h
    exact ⟨hl, hd⟩
  | c :: r, pre, o, h, hl, hd => by
    obtain ⟨h1, h2⟩ := step_next (nb := nb) (l := l) (o := o) (i := pre.length) hl (by rw [h]; simp) hd
    have := partsF_fine (nb := nb) r (pre ++ [c]) _ (by rw [h]; simp) h1 (by simpa using h2)
    rw [List.length_append] at this
    exact this
theorem partsR_len (nb : Cell → List Cell) (l : List Cell) : (partsR nb l).length = l.length := (partsF_fine l [] _ rfl (by simp) (fun j hj => by simp at hj)).1
theorem partsR_pos (nb : Cell → List Cell) (l : List Cell) : ∀ x ∈ partsR nb l, 0 ≤ x := by
  intro x hx
  obtain ⟨j, hj, e⟩ := List.getElem_of_mem hx
  have h := (partsF_fine (nb := nb) (l := l) l [] (List.replicate l.length (-1)) rfl (by simp) (fun j hj => by simp at hj)).2 j (by have := partsR_len nb l; omega)
  have h' : 0 ≤ rd (partsR nb l) (j : Int) := h
  unfold rd at h'
  rw [List.getD_eq_getElem?_getD, Int.toNat_natCast, List.getElem?_eq_getElem hj] at h'
  exact e ▸ h'
theorem wf64 {n : Int} (h : -9223372036854775808 ≤ n) (h' : n ≤ 9223372036854775807) : (Lit.int .i64 n).wf = true := by
  simp only [Lit.wf, IntKind.min, IntKind.max, IntKind.signed, IntKind.bits, Bool.and_eq_true, decide_eq_true_eq, if_true]; omega
theorem wf_wrap (n : Int) : (Lit.int .i64 (wrap64 n)).wf = true := wf64 (by unfold wrap64; omega) (by unfold wrap64; omega)
theorem wfC_ok {c : Cell} (h : okC c) : wfC c = true := by
  unfold wfC
  unfold okC ok1 at h
  rw [wf64 (by omega) (by omega), wf64 (by omega) (by omega)]
  rfl
theorem lastIdx_eq (c : Cell) : ∀ (l : List Cell) (i : Nat), l.Nodup → lastIdx l c i = if idxF l c (i : Int) ≥ 0 then some (idxF l c (i : Int)).toNat else none
  | [], i, _ => by simp [lastIdx, idxF]
  | a :: r, i, h => by
    obtain ⟨h1, h2⟩ := List.nodup_cons.1 h
    have ih := lastIdx_eq c r (i + 1) h2
    have e : ((i + 1 : Nat) : Int) = (i : Int) + 1 := by omega
    rw [e] at ih
    unfold lastIdx idxF
    rw [ih]
    by_cases hs : sameC a c = true
    · have hac := sameC_iff.1 hs
      rw [if_pos hs]
      have hn : ¬ idxF r c ((i : Int) + 1) ≥ 0 := by
        rcases idxF_spec r c ((i : Int) + 1) (by omega) with ⟨h3, _⟩ | ⟨j, _, _, h3, _⟩
        · omega
        · exact absurd (List.mem_of_getElem? h3) (hac ▸ h1)
      rw [if_neg hn]
      have : a.f0 = c.f0 ∧ a.f1 = c.f1 := by rw [hac]; exact ⟨rfl, rfl⟩
      simp only [this, and_self, if_true]
      simp
    · rw [if_neg hs]
      have hne : ¬ (a.f0 = c.f0 ∧ a.f1 = c.f1) := by
        intro h3
        apply hs
        simp [sameC, h3.1, h3.2]
      by_cases hg : idxF r c ((i : Int) + 1) ≥ 0
      · rw [if_pos hg]
      · rw [if_neg hg]
        simp only [hne, if_false]
theorem look_eq (l : List Cell) (d : Cell) (hn : l.Nodup) (hw : wfC d = true) : impl_partsLook.f l d.f0 d.f1 = some (if idxC l d ≥ 0 then (idxC l d, true) else (0, false)) := by
  unfold impl_partsLook.f
  have hw' : wfC ⟨d.f0, d.f1⟩ = true := hw
  rw [if_pos hw']
  have := lastIdx_eq d l 0 hn
  have e : lastIdx l ⟨d.f0, d.f1⟩ 0 = if idxC l d ≥ 0 then some (idxC l d).toNat else none := this
  rw [e]
  by_cases h : idxC l d ≥ 0
  · rw [if_pos h, if_pos h]
    simp only [Int.toNat_of_nonneg h]
  · rw [if_neg h, if_neg h]
end Go.Proofs.Ytfdfdifjkaaeoaa.L
end
section
namespace Go.Proofs.Ytfdfdifjkaaeoaa.L
open Go.RowKit Go.Proofs.YtfdfdifjkaaeoaaW.PrintWords Go.Proofs.Ytfdfdifjkaaeoaa.F
set_option linter.unusedVariables false
theorem aroundC_len (c : Cell) : (aroundC c).length ≤ 16 := by simp [aroundC]
theorem aroundC_wf {c : Cell} (h : wfC c = true) : ∀ d ∈ aroundC c, wfC d = true := by
  unfold wfC at h
  rw [Bool.and_eq_true] at h
  intro d hd
  simp only [aroundC, List.mem_cons, List.not_mem_nil, or_false] at hd
  rcases hd with rfl | rfl | rfl | rfl <;> simp [wfC, h.1, h.2, wf_wrap]
end Go.Proofs.Ytfdfdifjkaaeoaa.L
end
section
namespace Go.Proofs.Ytfdfdifjkaaeoaa.L
open Go.RowKit Go.Proofs.YtfdfdifjkaaeoaaW.PrintWords Go.Proofs.YtfdfdifjkaaeoaaW.PrintLast Go.Proofs.YtfdfdifjkaaeoaaW.PrintMore Go.Proofs.Ytfdfdifjkaaeoaa.F
set_option linter.unusedVariables false
set_option linter.unusedSimpArgs false
theorem ps_l3 (l : List Cell) (hl : l.length ≤ 1048576) (i : Int) (hi : 0 ≤ i) (xs : List Cell) (hx4 : xs.length = 4) (o q : List Int) (hf : Fine l o q) (hb : negs o + q.length ≤ l.length) {r : List Int}
    (hc : Ev (fun k => spec_l02Parts.l2 k l (visit l i xs (o, q)).1 i (visit l i xs (o, q)).2) r) :
    Ev (fun k => spec_l02Parts.l3 k l o i q xs 0) r := by
  have hsm : small xs := by unfold small; omega
  have hs : small l := by unfold small; omega
  refine loop_list xs (fun k j (s : List Int × List Int) => spec_l02Parts.l3 k l s.1 i s.2 xs j) (fun _ _ _ => r) (fun pre s => s = visit l i pre (o, q)) ?_ ?_ (o, q) rfl
  · rintro s rfl
    have e0 : ¬ ((xs.length : Int) < 4) := by omega
    simp only [spec_l02Parts.l3, e0, if_false]
    exact hc
  · rintro pre d suf s hx rfl ih
    obtain ⟨h1, h2, h3, _⟩ := visit_fine hi pre (s := (o, q)) hf
    simp only at h2 h3
    have hln := h1.len
    have hp4 : ((pre.length : Int) < 4) = True := by have := pre_len hx; simp; omega
    simp only [spec_l02Parts.l3, hp4, pre_lt hx, pre_0, if_true, at_pre hx, pre_w hx hsm]
    refine Ev.bind (specIndex_ev l d hs) ?_
    have hlt := idxC_lt l d
    have hq : (visit l i pre (o, q)).2.length ≤ l.length := by omega
    by_cases hg : idxC l d ≥ 0
    · refine Ev.pos hg (Ev.pos hg (Ev.pos (by omega) ?_))
      by_cases hr : rd (visit l i pre (o, q)).1 (idxC l d) < 0
      · refine Ev.pos hr (Ev.pos (by omega) ?_)
        have e : visit1 l i (visit l i pre (o, q)) d = ((visit l i pre (o, q)).1.set (idxC l d).toNat i, (visit l i pre (o, q)).2 ++ [idxC l d]) := by
          unfold visit1; rw [if_pos ⟨hg, hr⟩]
        exact ih ((visit l i pre (o, q)).1.set (idxC l d).toNat i, (visit l i pre (o, q)).2 ++ [idxC l d]) (by rw [visit_snoc, e])
      · refine Ev.neg hr (ih _ ?_)
        rw [visit_snoc]
        unfold visit1
        rw [if_neg fun h => hr h.2]
    · refine Ev.neg hg (ih _ ?_)
      rw [visit_snoc]
      unfold visit1
      rw [if_neg fun h => hg h.1]
theorem ps_l2 (l : List Cell) (hl : l.length ≤ 1048576) (i : Int) (hi : 0 ≤ i) {r : List Int} : ∀ (n : Nat) (o q : List Int), Fine l o q → negs o + q.length ≤ l.length → negs o + q.length ≤ n →
    Ev (fun k => spec_l02Parts.l1 k l (bfs aroundC l i n o q) (wrap64 (i + 1))) r → Ev (fun k => spec_l02Parts.l2 k l o i q) r := by
  intro n
  induction n with
  | zero =>
    intro o q hf hb hm hc
    obtain rfl : q = [] := List.length_eq_zero_iff.1 (by omega)
    refine Ev.succ ?_
    simp only [spec_l02Parts.l2]
    exact Ev.neg (by simp) hc
  | succ n ih =>
    intro o q hf hb hm hc
    refine Ev.succ ?_
    cases q with
    | nil =>
      simp only [spec_l02Parts.l2]
      exact Ev.neg (by simp) hc
    | cons c q =>
      have hr := hf.rng c List.mem_cons_self
      have e1 : rd (c :: q) 0 = c := rfl
      have hlen : (c :: q).length = q.length + 1 := rfl
      simp only [spec_l02Parts.l2, e1]
      refine Ev.pos (by omega) (Ev.pos (by omega) (Ev.pos hr.1 (Ev.pos hr.2 ?_)))
      simp only [specAround_eq, Option.bind_some]
      refine Ev.pos (by omega) ?_
      have hf' : Fine l o q := ⟨hf.len, fun j hj => hf.rng j (List.mem_cons_of_mem _ hj)⟩
      obtain ⟨h1, h2, h3, _⟩ := visit_fine hi (aroundC (rd_T59 l c)) (s := (o, q)) hf'
      simp only at h2 h3
      have ed : (c :: q).drop (1 : Int).toNat = q := rfl
      rw [ed]
      refine ps_l3 l hl i hi _ rfl o q hf' (by omega) ?_
      exact ih _ _ h1 (by omega) (by omega) hc
theorem ps_ev (l : List Cell) (hl : l.length ≤ 1048576) : Ev (fun k => spec_l02Parts.f k l) (partsR aroundC l) := by
  have hs : small l := by unfold small; omega
  unfold spec_l02Parts.f
  have hz := loop_list l (fun k i (s : List Int) => spec_l02Parts.l0 k l s i) (fun _ _ _ => partsR aroundC l) (fun pre s => s = List.replicate pre.length (-1)) ?_ ?_ [] rfl
  · exact hz
  · rintro s rfl
    simp only [spec_l02Parts.l0, len_lt, if_false]
    have := loop_list l (fun k i (s : List Int) => spec_l02Parts.l1 k l s i) (fun pre suf s => partsF aroundC l (pre.length : Int) suf s) (fun pre s => s.length = l.length ∧ ∀ j : Nat, j < pre.length → 0 ≤ rd s (j : Int)) ?_ ?_ (List.replicate l.length (-1)) ⟨by simp, fun j hj => by simp at hj⟩
    · exact this
    · rintro s _
      simp only [spec_l02Parts.l1, len_lt, if_false]
      exact Ev.now _
    · rintro pre c suf s hx ⟨h1, h2⟩ ih
      have hp := pre_len hx
      obtain ⟨h3, h4⟩ := step_next (nb := aroundC) (l := l) (o := s) (i := pre.length) h1 hp h2
      have hlt : ((pre.length : Int) < (s.length : Int)) = True := by rw [h1]; exact pre_lt hx
      simp only [spec_l02Parts.l1, pre_lt hx, pre_0, if_true, hlt, pre_w hx hs, Int.toNat_natCast]
      have hih := ih _ ⟨h3, by simpa using h4⟩
      unfold partsF
      rw [Int.toNat_natCast]
      have ee : ((pre ++ [c]).length : Int) = (pre.length : Int) + 1 := by simp
      rw [ee] at hih
      by_cases hg : rd s (pre.length : Int) ≥ 0
      · rw [if_pos hg] at hih ⊢
        exact Ev.pos hg hih
      · rw [if_neg hg] at hih ⊢
        refine Ev.neg hg ?_
        obtain ⟨h5, h6⟩ := step_fine h1 hp hg
        exact ps_l2 l hl (pre.length : Int) (by omega) l.length _ _ h5 (by simpa using h6) (by simpa using h6) (by rw [pre_w hx hs]; exact hih)
  · rintro pre c suf s hx rfl ih
    have hp := pre_len hx
    simp only [spec_l02Parts.l0, pre_lt hx, if_true, pre_w hx hs]
    exact Ev.pos (by rw [List.length_replicate]; omega) (ih _ (by simp [List.replicate_succ']))
def oneB (l : List Int) : Bool := l.all fun x => decide (x = 0)
def first (nb : Cell → List Cell) (l : List Cell) : List Int := bfs nb l 0 l.length ((List.replicate l.length (-1 : Int)).set 0 0) [0]
theorem max_ev (l : List Int) (hs : small l) (h0 : 0 < l.length) (hp : ∀ x ∈ l, 0 ≤ x) : Ev (fun k => slices_Max_int64_int64.f k l) (l.foldl mx 0) := by
  unfold slices_Max_int64_int64.f
  obtain ⟨c, r, rfl⟩ : ∃ c r, l = c :: r := by cases l with | nil => simp at h0 | cons c r => exact ⟨c, r, rfl⟩
  refine Ev.neg (by omega) (Ev.pos (by omega) ?_)
  have h1 : rd (c :: r) 0 = c := rfl
  rw [h1]
  have := loop_tail c r (fun k i (s : Int) => slices_Max_int64_int64.l0 k (c :: r) s i) (fun _ suf s => suf.foldl mx s) (fun _ _ => True) ?_ ?_ c trivial
  · refine Ev.of_eq this ?_
    have hc := hp c List.mem_cons_self
    have : mx 0 c = c := by unfold mx; split <;> omega
    simp [this]
  · rintro s _
    simp only [slices_Max_int64_int64.l0, len_lt, if_false]
    exact Ev.now _
  · rintro pre d suf s hx _ _ ih
    simp only [slices_Max_int64_int64.l0, pre_lt hx, pre_0, if_true, at_preI hx, pre_w hx hs]
    exact ih (mx s d) trivial
theorem foldl_mx : ∀ (l : List Int) (a : Int), 0 ≤ a → (∀ x ∈ l, 0 ≤ x) → 0 ≤ l.foldl mx a ∧ (l.foldl mx a = 0 ↔ a = 0 ∧ oneB l = true)
  | [], a, ha, _ => ⟨ha, by simp [oneB]⟩
  | c :: r, a, ha, h => by
    have hc := h c List.mem_cons_self
    have h1 : 0 ≤ mx a c := by unfold mx; split <;> omega
    obtain ⟨h2, h3⟩ := foldl_mx r (mx a c) h1 (fun x hx => h x (List.mem_cons_of_mem _ hx))
    refine ⟨h2, h3.trans ?_⟩
    have h4 : mx a c = 0 ↔ a = 0 ∧ c = 0 := by unfold mx; split <;> omega
    rw [h4]
    simp [oneB, and_assoc]
theorem pa_l3 (l : List Cell) (hl : l.length ≤ 1048576) (hn : l.Nodup) (i : Int) (hi : 0 ≤ i) (xs : List Cell) (hx4 : xs.length ≤ 16) (hwx : ∀ d ∈ xs, wfC d = true) (o p q : List Int) (hf : Fine l o q) (hb : negs o + (p ++ q).length ≤ l.length) (at_ len_ n_ : Int) {r : List Int}
    (hc : Ev (fun k => impl_parts__impl_around.l2 k l (visit l i xs (o, q)).1 i (p ++ (visit l i xs (o, q)).2) (wrap64 (at_ + 1)) len_ n_) r) :
    Ev (fun k => impl_parts__impl_around.l3 k l o i (p ++ q) at_ len_ n_ xs (xs.length : Int) 0) r := by
  have hsm : small xs := by unfold small; omega
  refine loop_list xs (fun k j (s : List Int × List Int) => impl_parts__impl_around.l3 k l s.1 i (p ++ s.2) at_ len_ n_ xs (xs.length : Int) j) (fun _ _ _ => r) (fun pre s => s = visit l i pre (o, q)) ?_ ?_ (o, q) rfl
  · rintro s rfl
    simp only [impl_parts__impl_around.l3, len_lt, if_false]
    exact hc
  · rintro pre d suf s hx rfl ih
    obtain ⟨h1, h2, h3, _⟩ := visit_fine hi pre (s := (o, q)) hf
    simp only at h2 h3
    have hln := h1.len
    have hd : wfC d = true := hwx d (by rw [hx]; simp)
    simp only [impl_parts__impl_around.l3, pre_lt hx, pre_0, if_true, at_pre hx, pre_w hx hsm, look_eq l d hn hd, Option.bind_some]
    have hlt := idxC_lt l d
    have hq : (p ++ (visit l i pre (o, q)).2).length ≤ l.length := by
      rw [List.length_append] at hb ⊢
      omega
    by_cases hg : idxC l d ≥ 0
    · simp only [hg, if_true]
      refine Ev.pos (by omega) ?_
      by_cases hr : rd (visit l i pre (o, q)).1 (idxC l d) < 0
      · refine Ev.pos hr (Ev.pos (by omega) ?_)
        have e : visit1 l i (visit l i pre (o, q)) d = ((visit l i pre (o, q)).1.set (idxC l d).toNat i, (visit l i pre (o, q)).2 ++ [idxC l d]) := by
          unfold visit1; rw [if_pos ⟨hg, hr⟩]
        have h := ih ((visit l i pre (o, q)).1.set (idxC l d).toNat i, (visit l i pre (o, q)).2 ++ [idxC l d]) (by rw [visit_snoc, e])
        rw [List.append_assoc]
        exact h
      · refine Ev.neg hr (ih _ ?_)
        rw [visit_snoc]
        unfold visit1
        rw [if_neg fun h => hr h.2]
    · simp only [hg, if_false, Bool.false_eq_true]
      refine ih _ ?_
      rw [visit_snoc]
      unfold visit1
      rw [if_neg fun h => hg h.1]
theorem pa_l2 (l : List Cell) (hl : l.length ≤ 1048576) (hn : l.Nodup) (hw : l.all wfC = true) (i : Int) (hi : 0 ≤ i) (len_ n_ : Int) {r : List Int} : ∀ (n : Nat) (o p q : List Int), Fine l o q → negs o + (p ++ q).length ≤ l.length → negs o + q.length ≤ n →
    Ev (fun k => impl_parts__impl_around.l1 k l (bfs aroundC l i n o q) len_ (wrap64 (n_ + 1))) r → Ev (fun k => impl_parts__impl_around.l2 k l o i (p ++ q) (p.length : Int) len_ n_) r := by
  intro n
  induction n with
  | zero =>
    intro o p q hf hb hm hc
    obtain rfl : q = [] := List.length_eq_zero_iff.1 (by omega)
    refine Ev.succ ?_
    simp only [impl_parts__impl_around.l2, List.append_nil, len_lt, if_false]
    exact hc
  | succ n ih =>
    intro o p q hf hb hm hc
    refine Ev.succ ?_
    cases q with
    | nil =>
      simp only [impl_parts__impl_around.l2, List.append_nil, len_lt, if_false]
      exact hc
    | cons c q =>
      have hr := hf.rng c List.mem_cons_self
      have hlen : (p ++ c :: q).length = p.length + (q.length + 1) := by simp
      have e1 : rd (p ++ c :: q) (p.length : Int) = c := by unfold rd; exact getD_at p q c _
      simp only [impl_parts__impl_around.l2, e1]
      refine Ev.pos (by rw [hlen]; omega) (Ev.pos (by omega) (Ev.pos hr.1 (Ev.pos hr.2 ?_)))
      simp only [implAround_eq, Option.bind_some]
      have hf' : Fine l o q := ⟨hf.len, fun j hj => hf.rng j (List.mem_cons_of_mem _ hj)⟩
      have hwc : wfC (rd_T59 l c) = true := by
        refine List.all_eq_true.1 hw _ ?_
        unfold rd_T59
        rw [List.getD_eq_getElem?_getD, List.getElem?_eq_getElem (show c.toNat < l.length by omega)]
        exact List.getElem_mem _
      obtain ⟨h1, h2, h3, _⟩ := visit_fine hi (aroundC (rd_T59 l c)) (s := (o, q)) hf'
      have ea : p ++ c :: q = (p ++ [c]) ++ q := by simp
      have ew : wrap64 ((p.length : Int) + 1) = ((p ++ [c]).length : Int) := by
        rw [w64 (by omega) (by omega)]; simp
      rw [ea] at hb ⊢
      refine pa_l3 l hl hn i hi (aroundC (rd_T59 l c)) (aroundC_len _) (aroundC_wf hwc) o (p ++ [c]) q hf' hb _ _ _ ?_
      rw [ew]
      refine ih _ _ _ h1 ?_ ?_ hc
      · simp only [List.length_append, List.length_singleton] at hb ⊢
        simp only at h2 h3
        omega
      · simp only [List.length_cons] at hm
        simp only at h2
        omega
theorem pa_ev (l : List Cell) (hl : l.length ≤ 1048576) (hn : l.Nodup) (hw : l.all wfC = true) : Ev (fun k => impl_parts__impl_around.f k l) (partsR aroundC l) := by
  have hs : small l := by unfold small; omega
  unfold impl_parts__impl_around.f
  refine Ev.pos hw (Ev.pos (by omega) (Ev.pos (by omega) ?_))
  have hz := loop_list l (fun k i (s : List Int) => impl_parts__impl_around.l0 k l s l (l.length : Int) i) (fun _ _ _ => partsR aroundC l) (fun pre s => s = List.replicate pre.length (-1) ++ List.replicate (l.length - pre.length) 0) ?_ ?_ (List.replicate (l.length : Int).toNat 0) (by simp)
  · exact hz
  · rintro s rfl
    simp only [impl_parts__impl_around.l0, len_lt, if_false, Nat.sub_self, List.replicate_zero, List.append_nil]
    have := loop_list l (fun k i (s : List Int) => impl_parts__impl_around.l1 k l s (l.length : Int) i) (fun pre suf s => partsF aroundC l (pre.length : Int) suf s) (fun pre s => s.length = l.length ∧ ∀ j : Nat, j < pre.length → 0 ≤ rd s (j : Int)) ?_ ?_ (List.replicate l.length (-1)) ⟨by simp, fun j hj => by simp at hj⟩
    · exact this
    · rintro s _
      simp only [impl_parts__impl_around.l1, len_lt, if_false]
      exact Ev.now _
    · rintro pre c suf s hx ⟨h1, h2⟩ ih
      have hp := pre_len hx
      obtain ⟨h3, h4⟩ := step_next (nb := aroundC) (l := l) (o := s) (i := pre.length) h1 hp h2
      have hlt : ((pre.length : Int) < (s.length : Int)) = True := by rw [h1]; exact pre_lt hx
      simp only [impl_parts__impl_around.l1, pre_lt hx, pre_0, if_true, hlt, pre_w hx hs, Int.toNat_natCast]
      have hih := ih _ ⟨h3, by simpa using h4⟩
      unfold partsF
      rw [Int.toNat_natCast]
      have ee : ((pre ++ [c]).length : Int) = (pre.length : Int) + 1 := by simp
      rw [ee] at hih
      by_cases hg : rd s (pre.length : Int) ≥ 0
      · rw [if_pos hg] at hih ⊢
        exact Ev.pos hg hih
      · rw [if_neg hg] at hih ⊢
        refine Ev.neg hg ?_
        obtain ⟨h5, h6⟩ := step_fine h1 hp hg
        have e0 : ([(pre.length : Int)] : List Int) = [] ++ [(pre.length : Int)] := rfl
        have := pa_l2 l hl hn hw (pre.length : Int) (by omega) (l.length : Int) (pre.length : Int) (r := partsF aroundC l ((pre.length : Int) + 1) suf (bfs aroundC l (pre.length : Int) l.length (s.set pre.length (pre.length : Int)) [(pre.length : Int)])) l.length (s.set pre.length (pre.length : Int)) [] [(pre.length : Int)] h5 (by simpa using h6) (by simpa using h6) (by
          rw [pre_w hx hs]; exact hih)
        exact this
  · rintro pre c suf s hx rfl ih
    have hp := pre_len hx
    have hlt : ((pre.length : Int) < ((List.replicate pre.length (-1 : Int) ++ List.replicate (l.length - pre.length) 0).length : Int)) = True := by simp; omega
    simp only [impl_parts__impl_around.l0, pre_lt hx, pre_0, if_true, hlt, pre_w hx hs, Int.toNat_natCast]
    refine ih _ ?_
    have e : l.length - pre.length = (l.length - (pre.length + 1)) + 1 := by omega
    simp only [List.length_append, List.length_singleton]
    rw [e, List.replicate_succ, List.set_append_right _ _ (by simp)]
    simp [List.replicate_succ', List.append_assoc]
theorem pa_conn (l : List Cell) (hl : l.length ≤ 1048576) (h0 : l ≠ []) (hn : l.Nodup) (hw : l.all wfC = true) : Ev (fun k => impl_connected__impl_around.f k l) (oneB (partsR aroundC l)) := by
  unfold impl_connected__impl_around.f
  have hln := partsR_len aroundC l
  have hp := partsR_pos aroundC l
  have hpos : 0 < (partsR aroundC l).length := by rw [hln]; exact List.length_pos_iff.2 h0
  refine Ev.bind (pa_ev l hl hn hw) (Ev.bind (max_ev _ (by unfold small; omega) hpos hp) (Ev.of_eq (Ev.now _) ?_))
  have h := (foldl_mx (partsR aroundC l) 0 (Int.le_refl _) hp).2
  rw [Bool.eq_iff_iff, beq_iff_eq, h]
  simp
def connB (l : List Cell) : Bool := oneB (partsR aroundC l)
theorem shape_fine {l : List Cell} (h : shapeB l = true) : l ≠ [] ∧ l.Nodup ∧ l.all wfC = true ∧ l.length ≤ 1048576 := by
  obtain ⟨h1, h2, h3, h4⟩ := shapeB_iff.1 h
  refine ⟨shape_ne h, h2.imp fun {a b} hab e => ?_, List.all_eq_true.2 fun c hc => wfC_ok (h1 c hc), by omega⟩
  subst e
  unfold ltC at hab
  omega
theorem region_shape {l : List Cell} (h : regionB l = true) : shapeB l = true := by
  unfold regionB at h
  rw [Bool.and_eq_true] at h
  exact h.1
end Go.Proofs.Ytfdfdifjkaaeoaa.L
end
section
namespace Go.Proofs.Ytfdfdifjkaaeoaa.L
open Go.RowKit Go.Proofs.YtfdfdifjkaaeoaaW.PrintWords Go.Proofs.YtfdfdifjkaaeoaaW.PrintLast Go.Proofs.YtfdfdifjkaaeoaaW.PrintMore Go.Proofs.Ytfdfdifjkaaeoaa.F
set_option linter.unusedVariables false
set_option linter.unusedSimpArgs false
theorem one_ev (l : List Int) (hs : small l) : Ev (fun k => spec_l02One.f k l) (oneB l) := by
  unfold spec_l02One.f
  refine loop_list l (fun k i (_ : Unit) => spec_l02One.l0 k l i) (fun pre suf _ => oneB suf) (fun _ _ => True) ?_ ?_ () trivial
  · intro _ _
    simp only [spec_l02One.l0, len_lt, if_false]
    exact Ev.now _
  · intro pre c suf _ hx _ ih
    simp only [spec_l02One.l0, pre_lt hx, pre_0, if_true, at_preI hx, pre_w hx hs]
    by_cases hc : c = 0
    · exact Ev.pos hc (Ev.of_eq (ih () trivial) (by simp [oneB, hc]))
    · exact Ev.neg hc (Ev.of_eq (Ev.now _) (by simp [oneB, hc]))
theorem specConn_ev (l : List Cell) (hl : l.length ≤ 1048576) : Ev (fun k => spec_IsConnected.f k l) (shapeB l && connB l) := by
  have hs : small l := by unfold small; omega
  unfold spec_IsConnected.f
  refine Ev.bind (specIsShape_ev l hs) ?_
  by_cases h : shapeB l = true
  · refine Ev.pos h (Ev.bind (ps_ev l hl) (Ev.bind (one_ev _ (by unfold small; rw [partsR_len]; omega)) (Ev.of_eq (Ev.now _) ?_)))
    simp [h, connB]
  · exact Ev.neg h (Ev.of_eq (Ev.now _) (by simp [h]))
def pieceB (l : List Cell) (n : Int) : Bool := regionB l && (connB l && decide (1 ≤ n ∧ n ≤ 8))
theorem specIsPiece_ev (l : List Cell) (n : Int) (b : Bool) (hl : l.length ≤ 1048576) : Ev (fun k => spec_IsPiece.f k l n b) (pieceB l n) := by
  have hs : small l := by unfold small; omega
  unfold spec_IsPiece.f pieceB
  refine Ev.bind (specIsRegion_ev l hs) ?_
  by_cases h : regionB l = true
  · refine Ev.pos h (Ev.bind (specConn_ev l hl) ?_)
    rw [region_shape h, Bool.true_and, h, Bool.true_and]
    by_cases hc : connB l = true
    · refine Ev.pos hc ?_
      simp only [in_eq, Option.bind_some, hc, Bool.true_and]
      exact Ev.now _
    · exact Ev.neg hc (Ev.of_eq (Ev.now _) (by simp [hc]))
  · exact Ev.neg h (Ev.of_eq (Ev.now _) (by simp [h]))
theorem implIsPiece_ev (l : List Cell) (n : Int) (b : Bool) (hl : l.length ≤ 1048576) : Ev (fun k => impl_IsPiece.f k l n b) (pieceB l n) := by
  have hs : small l := by unfold small; omega
  unfold impl_IsPiece.f pieceB
  refine Ev.bind (implIsRegion_ev l hs) ?_
  by_cases h : regionB l = true
  · obtain ⟨h1, h2, h3, _⟩ := shape_fine (region_shape h)
    refine Ev.pos h (Ev.bind (pa_conn l hl h1 h2 h3) ?_)
    rw [h, Bool.true_and]
    by_cases hc : connB l = true
    · refine Ev.pos hc ?_
      simp only [within_eq, Option.bind_some, hc, Bool.true_and]
      exact Ev.now _
    · exact Ev.neg hc (Ev.of_eq (Ev.now _) (by simp [hc]))
  · exact Ev.neg h (Ev.of_eq (Ev.now _) (by simp [h]))
end Go.Proofs.Ytfdfdifjkaaeoaa.L
end
section
namespace Go.Proofs.Ytfdfdifjkaaeoaa.L
open Go.RowKit Go.Proofs.YtfdfdifjkaaeoaaW.PrintWords Go.Proofs.YtfdfdifjkaaeoaaW.PrintLast Go.Proofs.YtfdfdifjkaaeoaaW.PrintMore Go.Proofs.Ytfdfdifjkaaeoaa.F
set_option linter.unusedVariables false
set_option linter.unusedSimpArgs false
theorem piece_pos {l : List Cell} {n : Int} (h : pieceB l n = true) : 0 < l.length := by
  unfold pieceB at h
  rw [Bool.and_eq_true] at h
  have := (shapeB_iff.1 (region_shape h.1)).2.2.1
  omega
def alikeR (l : List Cell) (n : Int) (b : Bool) (m : List Cell) (q : Int) (d : Bool) : Bool := pieceB l n && (pieceB m q && meetF (pieceF l b) (pieceF m d))
theorem specAreAlike_ev (l : List Cell) (n : Int) (b : Bool) (m : List Cell) (q : Int) (d : Bool) (hl : l.length ≤ 1048576) (hm : m.length ≤ 1048576) : Ev (fun k => spec_AreAlike.f k l n b m q d) (alikeR l n b m q d) := by
  unfold spec_AreAlike.f alikeR
  refine Ev.bind (specIsPiece_ev l n b hl) ?_
  by_cases h1 : pieceB l n = true
  · refine Ev.pos h1 (Ev.bind (specIsPiece_ev m q d hm) ?_)
    by_cases h2 : pieceB m q = true
    · refine Ev.pos h2 (Ev.bind (specAlike_ev l n b m q d hl hm (piece_pos h1) (piece_pos h2)) (Ev.of_eq (Ev.now _) (by simp [h1, h2])))
    · exact Ev.neg h2 (Ev.of_eq (Ev.now _) (by simp [h2]))
  · exact Ev.neg h1 (Ev.of_eq (Ev.now _) (by simp [h1]))
theorem implAreAlike_ev (l : List Cell) (n : Int) (b : Bool) (m : List Cell) (q : Int) (d : Bool) (hl : l.length ≤ 1048576) (hm : m.length ≤ 1048576) : Ev (fun k => impl_AreAlike.f k l n b m q d) (alikeR l n b m q d) := by
  unfold impl_AreAlike.f alikeR
  refine Ev.bind (implIsPiece_ev l n b hl) ?_
  by_cases h1 : pieceB l n = true
  · refine Ev.pos h1 (Ev.bind (implIsPiece_ev m q d hm) ?_)
    by_cases h2 : pieceB m q = true
    · refine Ev.pos h2 (Ev.bind (implAlike_ev l n b m q d hl hm (piece_pos h1) (piece_pos h2)) (Ev.of_eq (Ev.now _) (by simp [h1, h2])))
    · exact Ev.neg h2 (Ev.of_eq (Ev.now _) (by simp [h2]))
  · exact Ev.neg h1 (Ev.of_eq (Ev.now _) (by simp [h1]))
theorem toPiece_ev (l : List LCell) (n : Int) (b : Bool) (la : l.length ≤ 1048576) : Ev (fun k => laws_toPiece.f k l n b) (l.map cellOf, n, b) := by
  unfold laws_toPiece.f
  exact Ev.bind (toCellS_ev l la) (Ev.now _)
theorem eqPiece_ev (l : List Cell) (n : Int) (b : Bool) (hs : small l) : Ev (fun k => laws_eqPiece.f k l n b l n b) true := by
  unfold laws_eqPiece.f
  exact Ev.bind (eqCellS_ev _ hs) (Ev.pos rfl (Ev.pos rfl (Ev.neg (by simp) (Ev.now _))))
end Go.Proofs.Ytfdfdifjkaaeoaa.L
namespace Go.Proofs.Ytfdfdifjkaaeoaa.Pure
open Go.RowKit Go.Proofs.YtfdfdifjkaaeoaaW.PrintWords Go.Proofs.Ytfdfdifjkaaeoaa.F Go.Proofs.Ytfdfdifjkaaeoaa.L
set_option linter.unusedVariables false
theorem FnExactAreAlike (l : List LCell) (n : Int) (b : Bool) (m : List LCell) (q : Int) (d : Bool) (hv : V47 ⟨l, n, b⟩) (hw : V47 ⟨m, q, d⟩) : ∃ k, laws_FnExactAreAlike.f k l n b m q d = some true := by
  have hv1 : l.length ≤ 9223372036854775807 := hv.1.1
  have hw1 : m.length ≤ 9223372036854775807 := hw.1.1
  refine Ev.rounds ?_
  unfold laws_FnExactAreAlike.f laws_szPiece.f
  rw [szCellS_eq l 1048576 (by decide) (by decide) hv1]
  simp only [Option.bind_some]
  by_cases h : (1048576 : Int) - (l.length : Int) < 0
  · rw [if_pos h]
    simp only [show ((-1 : Int) < 0) = True by simp, if_true, Option.bind_some]
    exact Ev.now _
  · rw [if_neg h]
    simp only [h, if_false, Option.bind_some]
    rw [szCellS_eq m _ (by omega) (by omega) hw1]
    simp only [Option.bind_some]
    by_cases h2 : (1048576 : Int) - (l.length : Int) - (m.length : Int) < 0
    · rw [if_pos h2]
      simp only [show ((-1 : Int) < 0) = True by simp, if_true, Option.bind_some]
      exact Ev.now _
    · rw [if_neg h2]
      simp only [h2, if_false, Option.bind_some]
      have la : l.length ≤ 1048576 := by omega
      have lb : m.length ≤ 1048576 := by omega
      have lm : (l.map cellOf).length ≤ 1048576 := by simpa using la
      have ln : (m.map cellOf).length ≤ 1048576 := by simpa using lb
      have hs : small (l.map cellOf) := by unfold small; omega
      have ht : small (m.map cellOf) := by unfold small; omega
      refine Ev.bind (toPiece_ev l n b la) (Ev.bind (toPiece_ev m q d lb) (Ev.bind (specAreAlike_ev _ n b _ q d lm ln) (Ev.bind (toPiece_ev l n b la) (Ev.bind (toPiece_ev m q d lb) (Ev.bind (implAreAlike_ev _ n b _ q d lm ln) (Ev.neg (by simp) ?_))))))
      exact Ev.bind (toPiece_ev l n b la) (Ev.bind (eqPiece_ev _ n b hs) (Ev.pos rfl (Ev.bind (toPiece_ev m q d lb) (Ev.bind (eqPiece_ev _ q d ht) (Ev.pos rfl (Ev.now _))))))
end Go.Proofs.Ytfdfdifjkaaeoaa.Pure
end
