/- Arguments opened: whatever is read at a type of which a kind is told is a value of that kind; each number is of its own bounds. -/
import Derived.Deep.Slices
import Derived.Deep.Strs
import Derived.Deep.Fields
import Derived.ChangeSame
import Derived.ChangeArms
import Derived.WideShapes
import Derived.Test.YtabdmdkoffpppaaWA
namespace Go.Proofs.Ytabdmdkoffpppaa.Open
open Go.ChangeShapes Go.WideShapes Go.Deep Go.RowKit Go.Proofs.YtabdmdkoffpppaaW.PrintWords

def Opens {α : Type} (P : Program) (d : Kd α) (t : TypeId) (V : α → Prop) : Prop :=
  ∀ (H : Type) (enc : TypeId × Value → H) (w : World) (base : Nat) (spare : Nat → Bool) (held : Bool) (fuel : Nat) (cs : List Value) (x : DataW H × List MemPlace),
    DataW.trod enc P w base spare held fuel t cs = some x → ∃ a : α, d.K w a cs ∧ V a

theorem Opens.int {P : Program} {t : TypeId} {k : IntKind} (ht : P.underlying t = some (.int k)) : Opens P (Kd.int k) t (fun a => (Lit.int k a).wf = true) := by
  intro H enc w base spare held fuel cs x h
  obtain ⟨n, hcs, _, hw⟩ := DataW.trod_int ht h
  exact ⟨n, hcs, hw⟩

theorem Opens.bool {P : Program} {t : TypeId} (ht : P.underlying t = some .bool) : Opens P Kd.bool t (fun _ => True) := by
  intro H enc w base spare held fuel cs x h
  obtain ⟨b, hcs, _⟩ := DataW.trod_bool ht h
  exact ⟨b, hcs, trivial⟩

theorem Opens.slice {α : Type} [Inhabited α] {P : Program} {t e : TypeId} {d : Kd α} {V : α → Prop} (ht : P.underlying t = some (.slice e)) (hsz : P.cellsOf e = d.sz) (ho : Opens P d e V) :
    Opens P (Kd.slice e d) t (fun l => l.length ≤ 9223372036854775807 ∧ ∀ a ∈ l, V a) := by
  intro H enc w base spare held fuel cs x h
  rcases open_slice ht h with ⟨rfl, _⟩ | ⟨a, len, cap, m, n, D, Pl, rfl, hb, hl, hm, hmm, _, hi⟩
  · exact ⟨[], ⟨none, 0, rfl, Nat.le_refl _, rfl, by simp, fun hp => absurd hp (by simp)⟩, by simp, by simp⟩
  · have hlm : len ≤ m := by rw [hmm]; split <;> omega
    have hx : ∀ i, i < len → ∃ y : α, V y ∧ ∃ c : List Value, c.length = d.sz ∧ d.K w y c ∧ ∀ j u, c[j]? = some u → w.cell? (a.add (i * d.sz + j)) = some u := by
      intro i hil
      obtain ⟨cs', hc, ht'⟩ := hi i (by omega)
      obtain ⟨y, hk, hv⟩ := ho H enc w base spare held n cs' _ ht'
      obtain ⟨_, hcl, hat⟩ := World.cells?_some hc
      refine ⟨y, hv, cs', d.K_len hk, hk, fun j u hj => ?_⟩
      have hjl : j < cs'.length := (List.getElem?_eq_some_iff.1 hj).1
      have := hat j (by rw [hsz, ← d.K_len hk]; exact hjl)
      rw [Go.Deep.add_add, hsz] at this
      rw [this, hj]
    obtain ⟨f, hf⟩ := choose_lt hx
    have hlen : ((List.range len).map f).length = len := by simp
    refine ⟨(List.range len).map f, ⟨some a, cap, by rw [hlen], by rw [hlen]; exact hl, rfl, ?_, fun _ => ⟨a, rfl, fun j p hj => ?_⟩⟩, ?_⟩
    · rw [hlen]; unfold maxLen at hm; omega
    · have hjl : j < len := by
        have := (List.getElem?_eq_some_iff.1 hj).1
        rwa [hlen] at this
      have hp : f j = p := by
        rw [List.getElem?_map, List.getElem?_range hjl] at hj
        simpa using hj
      obtain ⟨_, c, h1, h2, h3⟩ := hf j hjl
      rw [hp] at h2
      exact ⟨c, h1, h2, h3⟩
    · refine ⟨by rw [hlen]; unfold maxLen at hm; omega, fun y hy => ?_⟩
      obtain ⟨i, hi', rfl⟩ := List.mem_map.1 hy
      exact (hf i (List.mem_range.1 hi')).1

theorem cut2 {cs : List Value} {n m : Nat} (h : cs.length = n + m) : cs = (cs.drop 0).take n ++ (cs.drop n).take m := by
  rw [List.drop_zero, List.take_of_length_le (l := cs.drop n) (by rw [List.length_drop]; omega), List.take_append_drop]

theorem Opens.struct2 {α β γ : Type} {P : Program} {t : TypeId} {f0 f1 : Field} {d0 : Kd α} {d1 : Kd β} {V0 : α → Prop} {V1 : β → Prop} (g : γ → α × β) (g' : α → β → γ) (hg : ∀ x y, g (g' x y) = (x, y))
    (ht : P.underlying t = some (.struct #[f0, f1])) (o0 : f0.offset = 0) (o1 : f1.offset = d0.sz) (s0 : P.cellsOf f0.type = d0.sz) (s1 : P.cellsOf f1.type = d1.sz) (sz : P.cellsOf t = d0.sz + d1.sz)
    (h0 : Opens P d0 f0.type V0) (h1 : Opens P d1 f1.type V1) : Opens P (Kd.iso (Kd.pair d0 d1) g) t (fun a => V0 (g a).1 ∧ V1 (g a).2) := by
  intro H enc w base spare held fuel cs x h
  obtain ⟨y0, y1, n, _, hl, t0, t1⟩ := trod_struct2 ht h
  rw [o0, s0] at t0
  rw [o1, s1] at t1
  obtain ⟨x0, k0, v0⟩ := h0 _ _ _ _ _ _ _ _ _ t0
  obtain ⟨x1, k1, v1⟩ := h1 _ _ _ _ _ _ _ _ _ t1
  refine ⟨g' x0 x1, ?_, ?_⟩
  · show ∃ c0 c1, cs = c0 ++ c1 ∧ d0.K w (g (g' x0 x1)).1 c0 ∧ d1.K w (g (g' x0 x1)).2 c1
    rw [hg]
    exact ⟨_, _, cut2 (by rw [hl, sz]), k0, k1⟩
  · simp only [hg]; exact ⟨v0, v1⟩

theorem Opens.struct3 {α β γ δ : Type} {P : Program} {t : TypeId} {f0 f1 f2 : Field} {d0 : Kd α} {d1 : Kd β} {d2 : Kd γ} {V0 : α → Prop} {V1 : β → Prop} {V2 : γ → Prop} (g : δ → α × β × γ) (g' : α → β → γ → δ) (hg : ∀ x y z, g (g' x y z) = (x, y, z))
    (ht : P.underlying t = some (.struct #[f0, f1, f2])) (o0 : f0.offset = 0) (o1 : f1.offset = d0.sz) (o2 : f2.offset = d0.sz + d1.sz) (s0 : P.cellsOf f0.type = d0.sz) (s1 : P.cellsOf f1.type = d1.sz) (s2 : P.cellsOf f2.type = d2.sz) (sz : P.cellsOf t = d0.sz + (d1.sz + d2.sz))
    (h0 : Opens P d0 f0.type V0) (h1 : Opens P d1 f1.type V1) (h2 : Opens P d2 f2.type V2) : Opens P (Kd.iso (Kd.pair d0 (Kd.pair d1 d2)) g) t (fun a => V0 (g a).1 ∧ V1 (g a).2.1 ∧ V2 (g a).2.2) := by
  intro H enc w base spare held fuel cs x h
  obtain ⟨y0, y1, y2, n, _, hl, t0, t1, t2⟩ := trod_struct3 ht h
  rw [o0, s0] at t0
  rw [o1, s1] at t1
  rw [o2, s2] at t2
  obtain ⟨x0, k0, v0⟩ := h0 _ _ _ _ _ _ _ _ _ t0
  obtain ⟨x1, k1, v1⟩ := h1 _ _ _ _ _ _ _ _ _ t1
  obtain ⟨x2, k2, v2⟩ := h2 _ _ _ _ _ _ _ _ _ t2
  refine ⟨g' x0 x1 x2, ?_, ?_⟩
  · show ∃ c0 c1, cs = c0 ++ c1 ∧ d0.K w (g (g' x0 x1 x2)).1 c0 ∧ ∃ c2 c3, c1 = c2 ++ c3 ∧ d1.K w (g (g' x0 x1 x2)).2.1 c2 ∧ d2.K w (g (g' x0 x1 x2)).2.2 c3
    rw [hg]
    refine ⟨_, _, cut2 (n := d0.sz) (m := d1.sz + d2.sz) (by rw [hl, sz]), k0, (cs.drop d0.sz).take d1.sz, (cs.drop (d0.sz + d1.sz)).take d2.sz, ?_, k1, k2⟩
    rw [← List.drop_drop, List.take_of_length_le (l := cs.drop d0.sz) (by rw [List.length_drop]; omega)]
    have := cut2 (cs := cs.drop d0.sz) (n := d1.sz) (m := d2.sz) (by rw [List.length_drop]; omega)
    rwa [List.drop_zero] at this
  · simp only [hg]; exact ⟨v0, v1, v2⟩

/-- An argument, opened. -/
theorem arg_open {α : Type} {P : Program} {t : TypeId} {d : Kd α} {V : α → Prop} (ho : Opens P d t V) {H : Type} {enc : TypeId × Value → H} {w : World} {base : Nat} {spare : Nat → Bool} {held : Bool} {v : Value} {x : DataW H} {p : List MemPlace}
    (h : DataW.Trod enc P w base spare held t v x p) : ∃ a : α, d.K w a v.cells.toList ∧ V a := by
  obtain ⟨fuel, hf⟩ := h
  exact ho _ _ _ _ _ _ _ _ _ hf
/-- A slice that came in. -/
theorem slice_arg {α : Type} {d : Kd α} {e : Nat} {w : World} {l : List α} {a : Option Addr} {len cap : Nat} (h : (Kd.slice e d).K w l (Value.slice a len cap).cells.toList) : l.length = len ∧ l.length ≤ cap ∧ d.C w a l.length l := by
  obtain ⟨A, c, hcs, hl, hr⟩ := h
  simp [Value.cells] at hcs
  obtain ⟨rfl, rfl, rfl⟩ := hcs
  exact ⟨rfl, hl, hr⟩
end Go.Proofs.Ytabdmdkoffpppaa.Open
