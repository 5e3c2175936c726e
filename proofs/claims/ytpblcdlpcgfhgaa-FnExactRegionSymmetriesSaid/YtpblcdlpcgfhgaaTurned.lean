/- Turned cells: bounds, that no two fall together, the least ones, and when a turn is a symmetry. -/
import Derived.Test.YtpblcdlpcgfhgaaNormal
import Derived.Test.YtpblcdlpcgfhgaaSortC
import Derived.Test.YtpblcdlpcgfhgaaBsearch
import Derived.Test.YtpblcdlpcgfhgaaFx7
namespace Go.Proofs.Ytpblcdlpcgfhgaa.L
open Go.RowKit Go.Proofs.YtpblcdlpcgfhgaaW.PrintWords Go.Proofs.YtpblcdlpcgfhgaaW.PrintLast Go.Proofs.YtpblcdlpcgfhgaaW.PrintMore Go.Proofs.Ytpblcdlpcgfhgaa.F
set_option linter.unusedVariables false
set_option linter.unusedSimpArgs false
def okP (p : Int × Int) : Prop := ok1 p.1 ∧ ok1 p.2
theorem rotP_ok : ∀ (n : Nat) (p : Int × Int), okP p → okP (rotP n p)
  | 0, p, h => h
  | n + 1, p, h => by
    have e : wrap64 (-p.2) = -p.2 := w64 (by unfold okP ok1 at h; omega) (by unfold okP ok1 at h; omega)
    unfold rotP
    rw [e]
    exact rotP_ok n _ (by unfold okP ok1 at *; simp only; omega)
theorem rotP_inj : ∀ (n : Nat) (p q : Int × Int), okP p → okP q → rotP n p = rotP n q → p = q
  | 0, p, q, _, _, h => h
  | n + 1, p, q, hp, hq, h => by
    have e : wrap64 (-p.2) = -p.2 := w64 (by unfold okP ok1 at hp; omega) (by unfold okP ok1 at hp; omega)
    have e' : wrap64 (-q.2) = -q.2 := w64 (by unfold okP ok1 at hq; omega) (by unfold okP ok1 at hq; omega)
    unfold rotP at h
    rw [e, e'] at h
    have := rotP_inj n _ _ (by unfold okP ok1 at *; simp only; omega) (by unfold okP ok1 at *; simp only; omega) h
    simp only [Prod.mk.injEq] at this
    exact Prod.ext (by omega) (by omega)
theorem turnD_ok {t : Int} {c : Cell} (h : okC c) : okC (turnD t c) := by
  have e : wrap64 (-c.f0) = -c.f0 := w64 (by unfold okC ok1 at h; omega) (by unfold okC ok1 at h; omega)
  have := rotP_ok (t % 4).toNat (if t ≥ 4 then (wrap64 (-c.f0), c.f1) else (c.f0, c.f1)) (by
    unfold okC ok1 at h
    split
    · rw [e]; unfold okP ok1; simp only; omega
    · unfold okP ok1; simp only; omega)
  exact this
theorem turnD_inj {t : Int} {c d : Cell} (hc : okC c) (hd : okC d) (h : turnD t c = turnD t d) : c = d := by
  have e : wrap64 (-c.f0) = -c.f0 := w64 (by unfold okC ok1 at hc; omega) (by unfold okC ok1 at hc; omega)
  have e' : wrap64 (-d.f0) = -d.f0 := w64 (by unfold okC ok1 at hd; omega) (by unfold okC ok1 at hd; omega)
  unfold turnD at h
  simp only [S60.mk.injEq] at h
  have hp := rotP_inj (t % 4).toNat _ _ (by
    unfold okC ok1 at hc
    split
    · rw [e]; unfold okP ok1; simp only; omega
    · unfold okP ok1; simp only; omega) (by
    unfold okC ok1 at hd
    split
    · rw [e']; unfold okP ok1; simp only; omega
    · unfold okP ok1; simp only; omega) (Prod.ext h.1 h.2 : turnC c t = turnC d t)
  obtain ⟨c0, c1⟩ := c
  obtain ⟨d0, d1⟩ := d
  simp only [S60.mk.injEq]
  simp only at hp e e'
  split at hp
  · simp only [Prod.mk.injEq] at hp; omega
  · simp only [Prod.mk.injEq] at hp; omega
theorem least_unique {l l' : List Cell} (hp : l.Perm l') (h0 : l ≠ []) : leastOf l = leastOf l' := by
  have h0' : l' ≠ [] := fun e => h0 (by rw [e] at hp; exact List.Perm.eq_nil hp)
  obtain ⟨⟨c, hc, ec⟩, ⟨d, hd, ed⟩⟩ := least_mem h0
  obtain ⟨⟨c', hc', ec'⟩, ⟨d', hd', ed'⟩⟩ := least_mem h0'
  have a1 := (least_le (hp.mem_iff.1 hc)).1
  have a2 := (least_le (hp.mem_iff.1 hd)).2
  have a3 := (least_le (hp.mem_iff.2 hc')).1
  have a4 := (least_le (hp.mem_iff.2 hd')).2
  exact Prod.ext (by omega) (by omega)
def shiftC (a b : Int) (c : Cell) : Cell := ⟨c.f0 - a, c.f1 - b⟩
theorem normalL_shift {l : List Cell} (h0 : l ≠ []) (ho : ∀ c ∈ l, okC c) : normalL l = l.map (shiftC (leastOf l).1 (leastOf l).2) := by
  have hb := least_ok h0 ho
  unfold normalL moveL
  refine List.map_congr_left fun c hc => ?_
  have h := ho c hc
  unfold okC ok1 at h
  unfold ok1 at hb
  unfold shiftC
  rw [w64 (n := -(leastOf l).1) (by omega) (by omega), w64 (n := -(leastOf l).2) (by omega) (by omega), w64 (by omega) (by omega), w64 (by omega) (by omega)]
  simp only [S60.mk.injEq]
  omega
theorem perm_of_subset : ∀ (m l : List Cell), m.Nodup → (∀ c ∈ m, c ∈ l) → l.length ≤ m.length → m.Perm l
  | [], l, _, _, h => by
    have : l = [] := List.length_eq_zero_iff.1 (by simpa using h)
    rw [this]
  | a :: m, l, hn, hs, h => by
    obtain ⟨h1, h2⟩ := List.nodup_cons.1 hn
    have ha := hs a List.mem_cons_self
    have hp := List.perm_cons_erase ha
    have hl := hp.length_eq
    rw [List.length_cons] at hl
    have := perm_of_subset m (l.erase a) h2 (fun c hc => by
      have hne : c ≠ a := fun e => h1 (e ▸ hc)
      exact (List.mem_erase_of_ne hne).2 (hs c (List.mem_cons_of_mem _ hc))) (by rw [List.length_cons] at h; omega)
    exact (this.cons a).trans hp.symm
def formC (l : List Cell) (t : Int) : List Cell := normalL (sortC (l.map (turnD t)))
theorem setF_ok (l : List Cell) : ∀ (r : List Cell) (acc : List Int), (setF l r acc).2 = true ↔ ∀ c ∈ r, c ∈ l
  | [], acc => by simp [setF]
  | c :: r, acc => by
    unfold setF
    by_cases h : idxC l c < 0
    · rw [if_pos h]
      have : c ∉ l := fun e => by have := (idxC_mem l c).2 e; omega
      simp [this]
    · rw [if_neg h, setF_ok l r]
      have : c ∈ l := (idxC_mem l c).1 (by omega)
      simp [this]
/-- A turn is a symmetry: both ways of telling it. -/
theorem symm_iff {l : List Cell} (h0 : l ≠ []) (ho : ∀ c ∈ l, okC c) (hs : l.Pairwise ltC) (t : Int) : formC l t = l ↔ (setF l (normalL (l.map (turnD t))) []).2 = true := by
  have hX0 : l.map (turnD t) ≠ [] := by simpa using h0
  have hXo : ∀ c ∈ l.map (turnD t), okC c := by
    intro c hc
    obtain ⟨d, hd, rfl⟩ := List.mem_map.1 hc
    exact turnD_ok (ho d hd)
  have hp := sortC_perm (l.map (turnD t))
  have hS0 : sortC (l.map (turnD t)) ≠ [] := fun e => hX0 (by rw [e] at hp; exact List.Perm.eq_nil hp.symm)
  have hSo : ∀ c ∈ sortC (l.map (turnD t)), okC c := fun c hc => hXo c (sortC_mem.1 hc)
  have hle := least_unique hp hS0
  have hF : formC l t = (sortC (l.map (turnD t))).map (shiftC (leastOf (l.map (turnD t))).1 (leastOf (l.map (turnD t))).2) := by
    unfold formC
    rw [normalL_shift hS0 hSo, hle]
  have hM := normalL_shift hX0 hXo
  have hFM : (formC l t).Perm (normalL (l.map (turnD t))) := by
    rw [hF, hM]
    exact hp.map _
  rw [setF_ok]
  constructor
  · intro h c hc
    have := hFM.mem_iff.2 hc
    rwa [h] at this
  · intro h
    have hn : (normalL (l.map (turnD t))).Nodup := by
      rw [hM, List.map_map]
      refine List.pairwise_map.2 (hs.imp_of_mem fun {a b} ha hb hab e => ?_)
      have e' : turnD t a = turnD t b := by
        have : shiftC (leastOf (l.map (turnD t))).1 (leastOf (l.map (turnD t))).2 (turnD t a) = shiftC (leastOf (l.map (turnD t))).1 (leastOf (l.map (turnD t))).2 (turnD t b) := e
        generalize turnD t a = x at this
        generalize turnD t b = y at this
        obtain ⟨x0, x1⟩ := x
        obtain ⟨y0, y1⟩ := y
        unfold shiftC at this
        simp only [S60.mk.injEq] at this ⊢
        omega
      have := turnD_inj (ho a ha) (ho b hb) e'
      subst this
      exact ltC_irrefl a hab
    have hpl := perm_of_subset _ l hn h (by rw [normalL_len]; simp)
    refine eq_of_sorted _ _ (hFM.trans hpl) ?_ (hs.imp fun {a b} hab hba => ltC_irrefl a (ltC_trans hab hba))
    rw [hF]
    refine List.pairwise_map.2 ((sortC_sorted _).imp fun {a b} hab => ?_)
    unfold ltC shiftC at *
    simp only
    omega
end Go.Proofs.Ytpblcdlpcgfhgaa.L
