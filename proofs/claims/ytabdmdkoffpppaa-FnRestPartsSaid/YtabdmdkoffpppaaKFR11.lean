/- The row of FnRestParts, with what it needs: text 12 of 13. -/
import Derived.Test.YtabdmdkoffpppaaKFR10
set_option maxHeartbeats 8000000
set_option maxRecDepth 100000
section
namespace Go.Proofs.Ytabdmdkoffpppaa.L
open Go.RowKit Go.Proofs.YtabdmdkoffpppaaW.PrintWords Go.Proofs.YtabdmdkoffpppaaW.PrintLast Go.Proofs.YtabdmdkoffpppaaW.PrintMore Go.Proofs.Ytabdmdkoffpppaa.F
set_option linter.unusedVariables false
set_option linter.unusedSimpArgs false
theorem Ex.succ {α : Type} {g : Nat → Option α} {P : α → Prop} (h : Ex (fun k => g (k + 1)) P) : Ex g P := by
  obtain ⟨r, h1, h2⟩ := h
  exact ⟨r, Ev.succ h1, h2⟩
theorem Ex.next {β : Type} {cs : List Int} {a s : Int} (h : Src cs a s) (n : Int) (hn : n ≤ 1000000000000) {f : Nat → Int × Int × Int → Option β} {Q : β → Prop}
    (k : ∀ v a' s', Src cs a' s' → 0 ≤ v → (1 ≤ n → v < n) → Ex (fun q => f q (v, a', s')) Q) : Ex (fun q => (spec_l01Next.f cs a s n).bind (f q)) Q := by
  obtain ⟨v, a', s', e, h1, h2, h3⟩ := next_ex h n hn
  exact Ex.bind0 e (k v a' s' h1 h2 h3)
theorem from_l (cs : List Int) (hl : cs.length ≤ 1000000000000000000) (hb : ∀ x ∈ cs, 0 ≤ x ∧ x ≤ 255) : ∀ (q i : Nat) (s : Int), i + q = min cs.length 64 → 0 ≤ s → s < 2147483647 →
    Ex (fun k => spec_l01From.l0 k cs (i : Int) cs 0 s) fun r => r.1 = cs ∧ r.2.1 = 0 ∧ Src cs 0 r.2.2
  | 0, i, s, hi, h0, h1 => by
    refine Ex.succ ?_
    simp only [spec_l01From.l0]
    have hS : Src cs 0 s := ⟨by omega, by omega, h0, h1, hl, hb⟩
    refine Ex.if_ (fun _ => Ex.neg (by omega) (Ex.now ⟨rfl, rfl, hS⟩)) (fun _ => Ex.now ⟨rfl, rfl, hS⟩)
  | q + 1, i, s, hi, h0, h1 => by
    refine Ex.succ ?_
    simp only [spec_l01From.l0]
    have hS : Src cs 0 s := ⟨by omega, by omega, h0, h1, hl, hb⟩
    have hr := rd_byte hS (i : Int) (by omega) (by omega)
    have ei : wrap64 ((i : Int) + 1) = ((i + 1 : Nat) : Int) := by rw [w64 (by omega) (by omega)]; omega
    have es : Int.tmod (wrap64 ((wrap64 (s * 47)) + (wrap64 (rd cs (i : Int))))) 2147483647 = (s * 47 + rd cs (i : Int)) % 2147483647 := by
      rw [w64 (n := s * 47) (by omega) (by omega), w64 (n := rd cs (i : Int)) (by omega) (by omega), w64 (by omega) (by omega), Int.tmod_eq_emod_of_nonneg (by omega)]
    rw [ei, es]
    exact Ex.pos (by omega) (Ex.pos (by omega) (Ex.pos (by omega) (from_l cs hl hb q (i + 1) _ (by omega) (Int.emod_nonneg _ (by omega)) (Int.emod_lt_of_pos _ (by omega)))))
theorem from_ex (cs : List Int) (hl : cs.length ≤ 1000000000000000000) (hb : ∀ x ∈ cs, 0 ≤ x ∧ x ≤ 255) : Ex (fun k => spec_l01From.f k cs) fun r => r.1 = cs ∧ r.2.1 = 0 ∧ Src cs 0 r.2.2 := by
  unfold spec_l01From.f
  exact from_l cs hl hb (min cs.length 64) 0 61003 (by omega) (by omega) (by omega)
def insC (c : Cell) : List Cell → List Cell
  | [] => [c]
  | a :: r => if ltC c a then c :: a :: r else a :: insC c r
theorem insC_perm (c : Cell) : ∀ l : List Cell, (insC c l).Perm (c :: l)
  | [] => List.Perm.refl _
  | a :: r => by
    unfold insC
    split
    · exact List.Perm.refl _
    · exact ((insC_perm c r).cons a).trans (List.Perm.swap c a r)
theorem insC_sorted (c : Cell) : ∀ l : List Cell, (l.Pairwise fun a b => ¬ ltC b a) → (insC c l).Pairwise fun a b => ¬ ltC b a
  | [], _ => by simp [insC]
  | a :: r, h => by
    obtain ⟨h1, h2⟩ := List.pairwise_cons.1 h
    unfold insC
    split
    · rename_i hc
      refine List.pairwise_cons.2 ⟨fun b hb => ?_, h⟩
      rcases List.mem_cons.1 hb with rfl | hb
      · unfold ltC at *; omega
      · have := h1 b hb
        unfold ltC at *; omega
    · rename_i hc
      refine List.pairwise_cons.2 ⟨fun b hb => ?_, insC_sorted c r h2⟩
      rcases List.mem_cons.1 ((insC_perm c r).mem_iff.1 hb) with rfl | hb
      · exact hc
      · exact h1 b hb
theorem specInsert_ev (l : List Cell) (c : Cell) (hl : l.length ≤ 1048576) : Ev (fun k => spec_l02Insert.f k l c.f0 c.f1) (insC c l) := by
  have hs : small l := by unfold small; omega
  unfold spec_l02Insert.f
  have := loop_list l (fun k i (s : List Cell × Bool) => spec_l02Insert.l0 k l s.1 s.2 i c.f0 c.f1) (fun pre suf s => if s.2 = true then s.1 ++ suf else s.1 ++ insC c suf) (fun pre s => s.1.length ≤ pre.length + 1 ∧ (s.2 = false → s.1.length = pre.length)) ?_ ?_ ([], false) ⟨by simp, fun _ => rfl⟩
  · simpa using this
  · rintro ⟨s, b⟩ ⟨h1, h2⟩
    simp only at h1 h2
    simp only [spec_l02Insert.l0, len_lt, if_false]
    cases b
    · refine Ev.neg (by simp) (Ev.pos (by omega) (Ev.of_eq (Ev.now _) ?_))
      simp [insC]
    · refine Ev.pos rfl (Ev.of_eq (Ev.now _) ?_)
      simp
  · rintro pre d suf ⟨s, b⟩ hx ⟨h1, h2⟩ ih
    have hp := pre_len hx
    simp only at h1 h2
    simp only [spec_l02Insert.l0, pre_lt hx, pre_0, if_true, at_pre hx, pre_w hx hs]
    cases b
    · refine Ev.neg (by simp) ?_
      simp only [l02Less_eq, Option.bind_some]
      have h2' := h2 rfl
      by_cases hd : ltC c d
      · have hd' : c.f1 < d.f1 ∨ c.f1 = d.f1 ∧ c.f0 < d.f0 := hd
        refine Ev.pos (by simpa using hd') (Ev.pos (by omega) ?_)
        refine Ev.pos (by simp; omega) (Ev.of_eq (ih ((s ++ [(⟨c.f0, c.f1⟩ : Cell)]) ++ [(⟨d.f0, d.f1⟩ : Cell)], true) ⟨by simp; omega, fun h => by cases h⟩) ?_)
        simp [insC, hd]
      · have hd' : ¬ (c.f1 < d.f1 ∨ c.f1 = d.f1 ∧ c.f0 < d.f0) := hd
        refine Ev.neg (by simpa using hd') (Ev.pos (by omega) (Ev.of_eq (ih (s ++ [(⟨d.f0, d.f1⟩ : Cell)], false) ⟨by simp; omega, fun _ => by simp; omega⟩) ?_))
        simp [insC, hd]
    · refine Ev.pos rfl (Ev.pos (by omega) (Ev.of_eq (ih (s ++ [(⟨d.f0, d.f1⟩ : Cell)], true) ⟨by simp; omega, fun h => by cases h⟩) ?_))
      simp
def insAll : List Cell → List Cell → List Cell
  | acc, [] => acc
  | acc, c :: r => insAll (insC c acc) r
theorem insAll_spec : ∀ (l acc : List Cell), (acc.Pairwise fun a b => ¬ ltC b a) → (insAll acc l).Perm (acc ++ l) ∧ (insAll acc l).Pairwise fun a b => ¬ ltC b a
  | [], acc, h => ⟨by simp [insAll], h⟩
  | c :: r, acc, h => by
    obtain ⟨h1, h2⟩ := insAll_spec r (insC c acc) (insC_sorted c acc h)
    refine ⟨h1.trans ?_, h2⟩
    refine ((insC_perm c acc).append_right r).trans ?_
    exact List.perm_middle.symm
theorem specSortI_ev (l : List Cell) (hl : l.length ≤ 1048576) : Ev (fun k => spec_l02Sort.f k l) (insAll [] l) := by
  have hs : small l := by unfold small; omega
  unfold spec_l02Sort.f
  refine loop_list l (fun k i (s : List Cell) => spec_l02Sort.l0 k l s i) (fun pre suf s => insAll s suf) (fun pre s => s.length = pre.length) ?_ ?_ [] rfl
  · intro s _
    simp only [spec_l02Sort.l0, len_lt, if_false]
    exact Ev.now _
  · intro pre c suf s hx hi ih
    have hp := pre_len hx
    simp only [spec_l02Sort.l0, pre_lt hx, pre_0, if_true, at_pre hx, pre_w hx hs]
    refine Ev.bind (specInsert_ev s c (by omega)) (ih _ ?_)
    rw [(insC_perm c s).length_eq]
    simp [hi]
theorem insP_mem {c d : Cell} {s : List Cell} : c ∈ insC d s ↔ c = d ∨ c ∈ s := by
  rw [(insC_perm d s).mem_iff, List.mem_cons]
theorem nbs_l1 (s : List Cell) (hs : s.length ≤ 64) (i : Int) (arr : List Cell) (ha : arr.length = 4) {Q : List Cell → Prop} : ∀ (suf pre acc : List Cell), arr = pre ++ suf → acc.length + suf.length ≤ 1000 →
    (∀ acc' : List Cell, acc'.length ≤ acc.length + suf.length → (∀ d ∈ acc', d ∈ acc ∨ d ∈ suf) → (∀ d ∈ acc, d ∈ acc') → (∀ d ∈ suf, d ∉ s → d ∈ acc') → Ex (fun k => spec_l02Neighbours.l0 k s acc' (wrap64 (i + 1))) Q) →
    Ex (fun k => spec_l02Neighbours.l1 k s acc i arr (pre.length : Int)) Q
  | [], pre, acc, hx, hl, hc => by
    refine Ex.succ ?_
    rw [List.append_nil] at hx
    subst hx
    simp only [spec_l02Neighbours.l1]
    exact Ex.neg (by omega) (hc acc (by simp) (fun d h => .inl h) (fun d h => h) (fun d h => by simp at h))
  | d :: suf, pre, acc, hx, hl, hc => by
    refine Ex.succ ?_
    have hsm : small arr := by unfold small; omega
    have hp := pre_len hx
    simp only [List.length_cons] at hl hc
    have h4 : ((pre.length : Int) < 4) := by omega
    simp only [spec_l02Neighbours.l1, pre_lt hx, pre_0, if_true, at_pre hx, pre_w hx hsm]
    refine Ex.pos h4 (Ex.bindE (specIndex_ev s d (by unfold small; omega)) ?_)
    have next (acc2 : List Cell) (h1 : acc2.length ≤ acc.length + 1) (h2 : ∀ x ∈ acc2, x ∈ acc ∨ x = d) (h3 : ∀ x ∈ acc, x ∈ acc2) (h5 : d ∉ s → d ∈ acc2) : Ex (fun k => spec_l02Neighbours.l1 k s acc2 i arr ((pre.length : Int) + 1)) Q := by
      have := nbs_l1 s hs i arr ha suf (pre ++ [d]) acc2 (by rw [hx]; simp) (by omega) (fun acc' g1 g2 g3 g4 => hc acc' (by omega) (fun x hx' => by
        rcases g2 x hx' with g | g
        · rcases h2 x g with g | rfl
          · exact .inl g
          · exact .inr List.mem_cons_self
        · exact .inr (List.mem_cons_of_mem _ g)) (fun x hx' => g3 x (h3 x hx')) (fun x hx' hn => by
        rcases List.mem_cons.1 hx' with rfl | hx'
        · exact g3 _ (h5 hn)
        · exact g4 x hx' hn))
      simpa using this
    by_cases hm : d ∈ s
    · have h := (idxC_mem s d).2 hm
      exact Ex.neg (by omega) (next acc (by omega) (fun x h => .inl h) (fun x h => h) (fun h => absurd hm h))
    · have h : ¬ idxC s d ≥ 0 := fun h => hm ((idxC_mem s d).1 h)
      refine Ex.pos (by omega) (Ex.bindE (specIndex_ev acc d (by unfold small; omega)) ?_)
      by_cases hm2 : d ∈ acc
      · have h := (idxC_mem acc d).2 hm2
        exact Ex.neg (by omega) (next acc (by omega) (fun x h => .inl h) (fun x h => h) (fun _ => hm2))
      · have h : ¬ idxC acc d ≥ 0 := fun h => hm2 ((idxC_mem acc d).1 h)
        refine Ex.pos (by omega) (Ex.bindE (specInsert_ev acc d (by omega)) (next (insC d acc) ?_ (fun x h => ?_) (fun x h => insP_mem.2 (.inr h)) (fun _ => insP_mem.2 (.inl rfl))))
        · rw [(insC_perm d acc).length_eq, List.length_cons]; omega
        · rcases insP_mem.1 h with h | h
          · exact .inr h
          · exact .inl h
theorem nbs_l0 (s : List Cell) (hs : s.length ≤ 64) : ∀ (suf pre acc : List Cell), s = pre ++ suf → acc.length ≤ 4 * pre.length → (∀ d ∈ acc, ∃ c ∈ s, d ∈ aroundC c) → (∀ c ∈ pre, ∀ d ∈ aroundC c, d ∉ s → d ∈ acc) →
    Ex (fun k => spec_l02Neighbours.l0 k s acc (pre.length : Int)) fun r => r.length ≤ 4 * s.length ∧ (∀ d ∈ r, ∃ c ∈ s, d ∈ aroundC c) ∧ ∀ c ∈ s, ∀ d ∈ aroundC c, d ∉ s → d ∈ r
  | [], pre, acc, hx, h1, h2, h3 => by
    refine Ex.succ ?_
    rw [List.append_nil] at hx
    subst hx
    simp only [spec_l02Neighbours.l0]
    exact Ex.neg (by omega) (Ex.now ⟨h1, h2, h3⟩)
  | c :: suf, pre, acc, hx, h1, h2, h3 => by
    refine Ex.succ ?_
    have hsm : small s := by unfold small; omega
    have hp := pre_len hx
    have h4 : (aroundC c).length = 4 := rfl
    simp only [spec_l02Neighbours.l0, pre_lt hx, pre_0, if_true, at_pre hx]
    refine Ex.bind0 (specAround_eq c) ?_
    refine nbs_l1 s hs (pre.length : Int) (aroundC c) h4 (aroundC c) [] acc rfl (by omega) (fun acc' g1 g2 g3 g4 => ?_)
    rw [pre_w hx hsm]
    have := nbs_l0 s hs suf (pre ++ [c]) acc' (by rw [hx]; simp) (by simp; omega) (fun d hd => by
      rcases g2 d hd with g | g
      · exact h2 d g
      · exact ⟨c, by rw [hx]; simp, g⟩) (fun e he d hd hn => by
      rcases List.mem_append.1 he with he | he
      · exact g3 d (h3 e he d hd hn)
      · simp at he
        subst he
        exact g4 d hd hn)
    simpa using this
theorem nbs_ex (s : List Cell) (hs : s.length ≤ 64) : Ex (fun k => spec_l02Neighbours.f k s) fun r => r.length ≤ 4 * s.length ∧ (∀ d ∈ r, ∃ c ∈ s, d ∈ aroundC c) ∧ ∀ c ∈ s, ∀ d ∈ aroundC c, d ∉ s → d ∈ r := by
  unfold spec_l02Neighbours.f
  exact nbs_l0 s hs s [] [] rfl (by simp) (by simp) (by simp)
def inBox (m : Int) (s : List Cell) : Prop := ∀ c ∈ s, -m ≤ c.f0 ∧ c.f0 ≤ m ∧ -m ≤ c.f1 ∧ c.f1 ≤ m
theorem nbs_pos {s r : List Cell} (h0 : 0 < s.length) (hb : inBox 1000 s) (h : ∀ c ∈ s, ∀ d ∈ aroundC c, d ∉ s → d ∈ r) : 0 < r.length := by
  have hne : s ≠ [] := by intro e; rw [e] at h0; simp at h0
  obtain ⟨_, ⟨c, hc, ec⟩⟩ := least_mem hne
  have hbc := hb c hc
  refine List.length_pos_of_mem (a := ⟨c.f0, wrap64 (c.f1 - 1)⟩) (h c hc _ (by simp [aroundC]) fun hm => ?_)
  have := (least_le hm).2
  simp only at this
  rw [w64 (by omega) (by omega)] at this
  omega
theorem around_box {m : Int} {c d : Cell} (hm : 0 ≤ m ∧ m ≤ 1000) (hc : -m ≤ c.f0 ∧ c.f0 ≤ m ∧ -m ≤ c.f1 ∧ c.f1 ≤ m) (hd : d ∈ aroundC c) : -(m + 1) ≤ d.f0 ∧ d.f0 ≤ m + 1 ∧ -(m + 1) ≤ d.f1 ∧ d.f1 ≤ m + 1 := by
  simp only [aroundC, List.mem_cons, List.not_mem_nil, or_false] at hd
  have w (n : Int) (h0 : -3000 ≤ n) (h1 : n ≤ 3000) : wrap64 n = n := w64 (by omega) (by omega)
  rw [w _ (by omega) (by omega), w _ (by omega) (by omega), w _ (by omega) (by omega), w _ (by omega) (by omega)] at hd
  rcases hd with rfl | rfl | rfl | rfl <;> (simp only; omega)
theorem poly_l (cs : List Int) : ∀ (q n : Nat) (s : List Cell) (a sd : Int), q + n ≤ 40 → s.length = n → 1 ≤ n → inBox (n : Int) s → Src cs a sd →
    Ex (fun k => spec_l02DrawPoly.l0 k s (q : Int) cs a sd) fun r => 1 ≤ r.1.length ∧ r.1.length ≤ 40 ∧ Src cs r.2.1 r.2.2
  | 0, n, s, a, sd, hq, hl, hn, hb, hS => by
    refine Ex.succ ?_
    simp only [spec_l02DrawPoly.l0]
    refine Ex.neg (by omega) (Ex.bindE (specNormal_ev s (by omega) (by omega)) (Ex.now ?_))
    have := normalL_len s
    exact ⟨by simp only; omega, by simp only; omega, hS⟩
  | q + 1, n, s, a, sd, hq, hl, hn, hb, hS => by
    refine Ex.succ ?_
    simp only [spec_l02DrawPoly.l0]
    refine Ex.pos (by omega) (Ex.bind (nbs_ex s (by omega)) fun r ⟨h1, h2, h3⟩ => ?_)
    have hr : 0 < r.length := nbs_pos (by omega) (fun c hc => by have := hb c hc; omega) h3
    refine Ex.next hS (r.length : Int) (by omega) fun v a' s' hS' hv0 hv1 => ?_
    have hv2 := hv1 (by omega)
    obtain ⟨j, rfl⟩ : ∃ j : Nat, v = (j : Int) := ⟨v.toNat, by omega⟩
    have hj : j < r.length := by omega
    have er : rd_T59 r (j : Int) = r[j] := by
      have : r = r.take j ++ r[j] :: r.drop (j + 1) := by rw [List.getElem_cons_drop, List.take_append_drop]
      have e2 := at_pre this
      rw [List.length_take, Nat.min_eq_left (by omega)] at e2
      exact e2
    have hd : r[j] ∈ r := List.getElem_mem hj
    obtain ⟨c, hc, hdc⟩ := h2 _ hd
    have hbd := around_box (m := (n : Int)) (by omega) (hb c hc) hdc
    simp only [er]
    refine Ex.pos (by omega) (Ex.pos (by omega) (Ex.bindE (specInsert_ev s r[j] (by omega)) ?_))
    have ew : wrap64 (((q + 1 : Nat) : Int) - 1) = (q : Int) := by rw [w64 (by omega) (by omega)]; omega
    rw [ew]
    refine poly_l cs q (n + 1) (insC r[j] s) a' s' (by omega) (by rw [(insC_perm _ s).length_eq, List.length_cons]; omega) (by omega) (fun x hx => ?_) hS'
    rcases insP_mem.1 hx with rfl | hx
    · omega
    · have := hb x hx; omega
theorem poly_ex {cs : List Int} {a s : Int} (h : Src cs a s) (n : Int) (h0 : 1 ≤ n) (h1 : n ≤ 39) : Ex (fun k => spec_l02DrawPoly.f k cs a s n) fun r => 1 ≤ r.1.length ∧ r.1.length ≤ 40 ∧ Src cs r.2.1 r.2.2 := by
  unfold spec_l02DrawPoly.f
  refine Ex.next h n (by omega) fun v a' s' hS hv0 hv1 => ?_
  have := hv1 h0
  obtain ⟨q, rfl⟩ : ∃ q : Nat, v = (q : Int) := ⟨v.toNat, by omega⟩
  exact poly_l cs q 1 [⟨0, 0⟩] a' s' (by omega) rfl (by omega) (fun c hc => by simp at hc; subst hc; simp) hS
theorem draw_l (cs : List Int) : ∀ (q i : Nat) (l : List Cell) (a s : Int), i + q = 42 → l.length = i → Src cs a s → Ex (fun k => spec_l02Draw.l0 k l (i : Int) cs a s) fun r => r.1.length ≤ 100 ∧ Src cs r.2.1 r.2.2
  | q, i, l, a, s, hi, hl, hS => by
    refine Ex.succ ?_
    simp only [spec_l02Draw.l0]
    refine Ex.next hS 2 (by omega) fun v a' s' hS' hv0 hv1 => ?_
    have hv := hv1 (by omega)
    have ew : wrap64 (40 + v) = 40 + v := w64 (by omega) (by omega)
    have ei : wrap64 ((i : Int) + 1) = ((i + 1 : Nat) : Int) := by rw [w64 (by omega) (by omega)]; omega
    simp only [ew, ei]
    match q, hi with
    | 0, hi => exact Ex.neg (by omega) (Ex.now ⟨by simp only; omega, hS'⟩)
    | q + 1, hi =>
      exact Ex.if_ (fun _ => Ex.pos (by omega) (draw_l cs q (i + 1) _ a' s' (by omega) (by simp [hl]) hS')) (fun _ => Ex.now ⟨by simp only; omega, hS'⟩)
theorem insAll_len (l : List Cell) : (insAll [] l).length = l.length := by
  have := (insAll_spec l [] List.Pairwise.nil).1.length_eq
  simpa using this
theorem draw_ex {cs : List Int} {a s : Int} (h : Src cs a s) : Ex (fun k => spec_l02Draw.f k cs a s) fun r => r.1.length ≤ 100 ∧ Src cs r.2.1 r.2.2 := by
  unfold spec_l02Draw.f
  refine Ex.bind (poly_ex h 8 (by omega) (by omega)) fun p ⟨p0, p1, p2⟩ => ?_
  refine Ex.next p2 9 (by omega) fun v1 a1 s1 h1 _ _ => ?_
  refine Ex.next h1 9 (by omega) fun v2 a2 s2 h2 _ _ => ?_
  refine Ex.bindE (specMove_ev p.1 _ _ (by omega)) ?_
  have hml := moveL_len p.1 (wrap64 (v1 - 4)) (wrap64 (v2 - 4))
  generalize moveL p.1 (wrap64 (v1 - 4)) (wrap64 (v2 - 4)) = t at hml ⊢
  refine Ex.next h2 (t.length : Int) (by omega) fun v3 a3 s3 h3 g0 g1 => ?_
  have g2 := g1 (by omega)
  refine Ex.next h3 24 (by omega) fun v4 a4 s4 h4 _ _ => ?_
  simp only
  have ew : wrap64 ((t.length : Int) - 1) = (t.length : Int) - 1 := w64 (by omega) (by omega)
  refine Ex.if_ (fun _ => ?_) (fun _ => ?_)
  · refine Ex.bind0 rfl (Ex.next h4 3 (by omega) fun v5 a5 s5 h5 q0 q1 => ?_)
    have q2 := q1 (by omega)
    have e3 : (([(-100), 100, 101] : List Int).length : Int) = 3 := rfl
    refine Ex.pos q0 (Ex.pos (by rw [e3]; exact q2) (Ex.pos g0 (Ex.pos g2 (Ex.bindE (specSortI_ev _ (by rw [List.length_set]; omega)) (Ex.now ?_)))))
    exact ⟨by simp only; rw [insAll_len, List.length_set]; omega, h5⟩
  refine Ex.if_ (fun _ => ?_) (fun _ => ?_)
  · exact Ex.pos g0 (Ex.pos g2 (Ex.pos (by omega) (Ex.now ⟨by simp; omega, h4⟩)))
  refine Ex.if_ (fun _ => Ex.now ⟨by simp, h4⟩) (fun _ => ?_)
  refine Ex.if_ (fun _ => draw_l cs 42 0 [] a4 s4 (by omega) rfl h4) (fun _ => ?_)
  rw [ew]
  refine Ex.if_ (fun _ => ?_) (fun _ => ?_)
  · exact Ex.pos (by omega) (Ex.pos (by omega) (Ex.pos (by omega) (Ex.pos (by omega) (Ex.now ⟨by simp; omega, h4⟩))))
  refine Ex.if_ (fun _ => ?_) (fun _ => Ex.now ⟨by simp only; omega, h4⟩)
  exact Ex.pos (by omega) (Ex.pos (by omega) (Ex.pos (by omega) (Ex.pos (by omega) (Ex.now ⟨by simp; omega, h4⟩))))
theorem rect_l (x0 x1 : Int) (M : Nat) (hM : wrap64 (x0 * x1) = (M : Int)) (hx : x0 ≠ 0) (hM1 : M ≤ 1000) : ∀ (q i : Nat) (acc : List Cell), i + q = M → acc.length = i →
    Ex (fun k => spec_l10Rectangle.l0 k x0 x1 acc (i : Int)) fun r => r.length = M
  | 0, i, acc, hi, hl => by
    refine Ex.succ ?_
    simp only [spec_l10Rectangle.l0, hM]
    exact Ex.neg (by omega) (Ex.now (by omega))
  | q + 1, i, acc, hi, hl => by
    refine Ex.succ ?_
    have ei : wrap64 ((i : Int) + 1) = ((i + 1 : Nat) : Int) := by rw [w64 (by omega) (by omega)]; omega
    simp only [spec_l10Rectangle.l0, hM, ei]
    exact Ex.pos (by omega) (Ex.neg hx (Ex.pos (by omega) (rect_l x0 x1 M hM hx hM1 q (i + 1) _ (by omega) (by simp [hl]))))
theorem rect_ex (x0 x1 : Int) (M : Nat) (hM : wrap64 (x0 * x1) = (M : Int)) (hx : x0 ≠ 0) (hM1 : M ≤ 1000) : Ex (fun k => spec_l10Rectangle.f k x0 x1) fun r => r.length = M := by
  unfold spec_l10Rectangle.f
  exact rect_l x0 x1 M hM hx hM1 M 0 [] (by omega) rfl
theorem without_eq (l : List Cell) (i : Int) (h0 : 0 ≤ i) (h1 : i < (l.length : Int)) (hl : l.length ≤ 1000) : ∃ r, spec_l05Without.f l i = some r ∧ r.length + 1 = l.length := by
  have ew : wrap64 (i + 1) = i + 1 := w64 (by omega) (by omega)
  unfold spec_l05Without.f
  simp only [Option.bind_some, ew, List.nil_append, List.length_nil, List.length_take, List.length_drop]
  rw [if_pos h0, if_pos (by omega), if_pos (by omega), if_pos (by omega), if_pos (by omega), if_pos (by omega)]
  refine ⟨_, rfl, ?_⟩
  simp
  omega
def smallY : List (List Int) := [[3, 4], [4, 3], [2, 5], [5, 2], [3, 3], [6, 2], [4, 2]]
theorem smallY_at {v : Int} (h0 : 0 ≤ v) (h1 : v < 7) : ∃ p q : Int, rd_L1 smallY v = [p, q] ∧ 2 ≤ p ∧ p ≤ 6 ∧ 2 ≤ q ∧ q ≤ 5 ∧ ∃ M : Nat, p * q = (M : Int) ∧ 8 ≤ M ∧ M ≤ 12 := by
  have : v = 0 ∨ v = 1 ∨ v = 2 ∨ v = 3 ∨ v = 4 ∨ v = 5 ∨ v = 6 := by omega
  rcases this with rfl | rfl | rfl | rfl | rfl | rfl | rfl
  · exact ⟨3, 4, rfl, by omega, by omega, by omega, by omega, 12, rfl, by omega, by omega⟩
  · exact ⟨4, 3, rfl, by omega, by omega, by omega, by omega, 12, rfl, by omega, by omega⟩
  · exact ⟨2, 5, rfl, by omega, by omega, by omega, by omega, 10, rfl, by omega, by omega⟩
  · exact ⟨5, 2, rfl, by omega, by omega, by omega, by omega, 10, rfl, by omega, by omega⟩
  · exact ⟨3, 3, rfl, by omega, by omega, by omega, by omega, 9, rfl, by omega, by omega⟩
  · exact ⟨6, 2, rfl, by omega, by omega, by omega, by omega, 12, rfl, by omega, by omega⟩
  · exact ⟨4, 2, rfl, by omega, by omega, by omega, by omega, 8, rfl, by omega, by omega⟩
theorem small_ex {cs : List Int} {a s : Int} (h : Src cs a s) : Ex (fun k => spec_l10DrawSmall.f k cs a s) fun r => r.1.length ≤ 100 ∧ Src cs r.2.1 r.2.2 := by
  unfold spec_l10DrawSmall.f
  refine Ex.bind0 (a := smallY) rfl (Ex.next h 7 (by omega) fun v a1 s1 h1 g0 g1 => ?_)
  have g2 := g1 (by omega)
  obtain ⟨p, q, e, p0, p1, q0, q1, M, eM, M0, M1⟩ := smallY_at g0 g2
  have e7 : (smallY.length : Int) = 7 := rfl
  simp only [e]
  have ep : rd [p, q] 0 = p := rfl
  have eq : rd [p, q] 1 = q := rfl
  refine Ex.pos g0 (Ex.pos (by rw [e7]; exact g2) (Ex.pos (by simp) (Ex.pos (by simp) ?_)))
  rw [ep, eq]
  refine Ex.bind (rect_ex p q M (by rw [eM]; exact w64 (by omega) (by omega)) (by omega) (by omega)) fun t ht => ?_
  refine Ex.next h1 3 (by omega) fun v2 a2 s2 h2 _ _ => Ex.if_ (fun _ => ?_) (fun _ => Ex.now ⟨by simp only; omega, h2⟩)
  refine Ex.next h2 (t.length : Int) (by omega) fun v3 a3 s3 h3 f0 f1 => ?_
  obtain ⟨r, er, hr⟩ := without_eq t v3 f0 (f1 (by omega)) (by omega)
  have hn := normalL_len r
  exact Ex.bind0 er (Ex.bindE (specNormal_ev r (by omega) (by omega)) (Ex.now ⟨by simp only; omega, h3⟩))
theorem region_ex {cs : List Int} {a s : Int} (h : Src cs a s) : Ex (fun k => spec_l10Draw.f k cs a s) fun r => r.1.length ≤ 100 ∧ Src cs r.2.1 r.2.2 := by
  unfold spec_l10Draw.f
  refine Ex.next h 24 (by omega) fun v a1 s1 h1 _ _ => ?_
  have hj (b : Bool) : Ex (fun k => spec_l10Draw.j0 k b cs a1 s1) fun r => r.1.length ≤ 100 ∧ Src cs r.2.1 r.2.2 := by
    refine Ex.succ ?_
    simp only [spec_l10Draw.j0]
    refine Ex.if_ (fun _ => Ex.bind (poly_ex h1 9 (by omega) (by omega)) fun r ⟨r0, r1, r2⟩ => Ex.now ⟨by simp only; omega, r2⟩) (fun _ => Ex.bind (small_ex h1) fun r ⟨r1, r2⟩ => Ex.now ⟨r1, r2⟩)
  refine Ex.if_ (fun _ => Ex.bind (draw_ex h1) fun r ⟨r1, r2⟩ => Ex.now ⟨r1, r2⟩) (fun _ => ?_)
  refine Ex.if_ (fun _ => Ex.bind (rect_ex 20 2 40 (by rw [w64 (by omega) (by omega)]; rfl) (by omega) (by omega)) fun r hr => Ex.now ⟨by simp only; omega, h1⟩) (fun _ => ?_)
  refine Ex.if_ (fun _ => Ex.next h1 2 (by omega) fun v2 a2 s2 h2 _ _ => Ex.now ⟨by simp, h2⟩) (fun _ => ?_)
  exact Ex.if_ (fun _ => hj _) (fun _ => hj _)
theorem set_l1 {cs : List Int} {a s : Int} (h : Src cs a s) (l : List Cell) (hl : l.length ≤ 100) : ∀ (q i : Nat) (acc : List Int), i + q = l.length → acc.length = i →
    Ex (fun k => spec_l10DrawSet.l1 k l acc (i : Int) cs a s) fun r => r.1.length ≤ 200 ∧ Src cs r.2.1 r.2.2
  | 0, i, acc, hi, ha => by
    refine Ex.succ ?_
    simp only [spec_l10DrawSet.l1]
    exact Ex.neg (by omega) (Ex.now ⟨by simp only; omega, h⟩)
  | q + 1, i, acc, hi, ha => by
    refine Ex.succ ?_
    have ei : wrap64 ((i : Int) + 1) = ((i + 1 : Nat) : Int) := by rw [w64 (by omega) (by omega)]; omega
    simp only [spec_l10DrawSet.l1, ei]
    exact Ex.pos (by omega) (Ex.pos (by omega) (set_l1 h l hl q (i + 1) _ (by omega) (by simp [ha])))
theorem set_l0 {cs : List Int} (l : List Cell) (hl : l.length ≤ 100) : ∀ (q i : Nat) (acc : List Int) (a s : Int), i + q = l.length → acc.length ≤ i → Src cs a s →
    Ex (fun k => spec_l10DrawSet.l0 k l acc (i : Int) cs a s) fun r => r.1.length ≤ 200 ∧ Src cs r.2.1 r.2.2
  | 0, i, acc, a, s, hi, ha, h => by
    refine Ex.succ ?_
    simp only [spec_l10DrawSet.l0]
    refine Ex.neg (by omega) (Ex.next h 24 (by omega) fun v a1 s1 h1 _ _ => ?_)
    refine Ex.if_ (fun _ => Ex.pos (by omega) (Ex.now ⟨by simp; omega, h1⟩)) (fun _ => ?_)
    refine Ex.if_ (fun _ => Ex.pos (by omega) (Ex.now ⟨by simp; omega, h1⟩)) (fun _ => ?_)
    refine Ex.if_ (fun _ => set_l1 h1 l hl l.length 0 [] (by omega) rfl) (fun _ => Ex.now ⟨by simp only; omega, h1⟩)
  | q + 1, i, acc, a, s, hi, ha, h => by
    refine Ex.succ ?_
    have ei : wrap64 ((i : Int) + 1) = ((i + 1 : Nat) : Int) := by rw [w64 (by omega) (by omega)]; omega
    simp only [spec_l10DrawSet.l0, ei]
    refine Ex.pos (by omega) (Ex.next h 3 (by omega) fun v a1 s1 h1 _ _ => ?_)
    exact Ex.if_ (fun _ => Ex.pos (by omega) (set_l0 l hl q (i + 1) _ a1 s1 (by omega) (by simp; omega) h1)) (fun _ => set_l0 l hl q (i + 1) acc a1 s1 (by omega) (by omega) h1)
theorem set_ex {cs : List Int} {a s : Int} (h : Src cs a s) (l : List Cell) (hl : l.length ≤ 100) : Ex (fun k => spec_l10DrawSet.f k cs a s l) fun r => r.1.length ≤ 200 ∧ Src cs r.2.1 r.2.2 := by
  unfold spec_l10DrawSet.f
  exact set_l0 l hl l.length 0 [] a s (by omega) (by simp) h
theorem cutDraw_ex (cs : List Int) (hl : cs.length ≤ 1000000000000000000) (hb : ∀ x ∈ cs, 0 ≤ x ∧ x ≤ 255) : Ex (fun k => spec_DrawCutRegion.f k cs) fun r => r.1.length ≤ 100 ∧ r.2.length ≤ 200 := by
  unfold spec_DrawCutRegion.f
  refine Ex.bind (from_ex cs hl hb) fun ⟨c1, a1, s1⟩ ⟨e1, e2, h1⟩ => ?_
  simp only at e1 e2 h1
  subst e1 e2
  refine Ex.bind (region_ex h1) fun r ⟨r1, r2⟩ => ?_
  exact Ex.bind (set_ex r2 r.1 r1) fun t ⟨t1, t2⟩ => Ex.now ⟨r1, t1⟩
def rectN (w n : Nat) : List Cell := (List.range n).map fun i => ⟨((i % w : Nat) : Int), ((i / w : Nat) : Int)⟩
theorem rectN_len (w n : Nat) : (rectN w n).length = n := by simp [rectN]
theorem rectN_succ (w n : Nat) : rectN w (n + 1) = rectN w n ++ [⟨((n % w : Nat) : Int), ((n / w : Nat) : Int)⟩] := by simp [rectN, List.range_succ]
def rectR (w h : Int) : List Cell × Int := if (1 ≤ w ∧ w ≤ 20) ∧ (1 ≤ h ∧ h ≤ 20) ∧ w * h ≤ 40 then (rectN w.toNat (w.toNat * h.toNat), 0) else ([], 2)
theorem rectR_len (w h : Int) : (rectR w h).1.length ≤ 400 := by
  unfold rectR
  split
  · rename_i g
    show (rectN _ _).length ≤ 400
    rw [rectN_len]
    have := Nat.mul_le_mul (show w.toNat ≤ 20 by omega) (show h.toNat ≤ 20 by omega)
    omega
  · simp
theorem specRect_l (w h : Nat) (hw : 1 ≤ w) (hw2 : w ≤ 1000) (hh : h ≤ 1000) (hm : w * h ≤ 1000000) : ∀ (q i : Nat), i + q = w * h → Ev (fun k => spec_l10Rectangle.l0 k (w : Int) (h : Int) (rectN w i) (i : Int)) (rectN w (w * h)) := by
  have em : wrap64 ((w : Int) * (h : Int)) = ((w * h : Nat) : Int) := by rw [← Int.natCast_mul, w64 (by omega) (by omega)]
  intro q
  induction q with
  | zero =>
    intro i hi
    refine Ev.succ ?_
    simp only [spec_l10Rectangle.l0, em]
    exact Ev.neg (by omega) (Ev.of_eq (Ev.now _) (by rw [show i = w * h by omega]))
  | succ q ih =>
    intro i hi
    refine Ev.succ ?_
    simp only [spec_l10Rectangle.l0, em]
    have ew : wrap64 ((i : Int) + 1) = ((i + 1 : Nat) : Int) := by rw [w64 (by omega) (by omega)]; omega
    have e1 : Int.tmod (i : Int) (w : Int) = ((i % w : Nat) : Int) := by rw [Int.tmod_eq_emod_of_nonneg (by omega)]; rfl
    have hd : i / w ≤ i := Nat.div_le_self i w
    have e2 : wrap64 (Int.tdiv (i : Int) (w : Int)) = ((i / w : Nat) : Int) := by rw [Int.tdiv_eq_ediv_of_nonneg (by omega)]; rw [show (i : Int) / (w : Int) = ((i / w : Nat) : Int) from rfl]; generalize i / w = d at hd ⊢; exact w64 (by omega) (by omega)
    refine Ev.pos (by omega) (Ev.neg (by omega) (Ev.pos (by rw [rectN_len]; omega) ?_))
    rw [ew, e1, e2]
    have := ih (i + 1) (by omega)
    rw [rectN_succ] at this
    exact this
theorem implRect_l1 (w h y : Nat) (hw : 1 ≤ w) (hw2 : w ≤ 1000) (hm : w * h ≤ 1000000) (hy : y < h) (x7 x24 x25 : Int) (h7 : x7 = (y : Int)) {r : List Cell × Int} (hc : Ev (fun k => impl_RectangleRegion.l0 k (w : Int) (rectN w (w * (y + 1))) x24 (wrap64 (x25 + 1))) r) : ∀ (q x : Nat), x + q = w → Ev (fun k => impl_RectangleRegion.l1 k (w : Int) (rectN w (w * y + x)) x7 x24 x25 (w : Int) (x : Int)) r := by
  intro q
  have hb : w * (y + 1) ≤ w * h := Nat.mul_le_mul_left w hy
  rw [Nat.mul_add, Nat.mul_one] at hb
  induction q with
  | zero =>
    intro x hx
    refine Ev.succ ?_
    simp only [impl_RectangleRegion.l1]
    refine Ev.neg (by omega) ?_
    rw [show w * y + x = w * (y + 1) by rw [Nat.mul_add]; omega]
    exact hc
  | succ q ih =>
    intro x hx
    refine Ev.succ ?_
    simp only [impl_RectangleRegion.l1]
    have ew : wrap64 ((x : Int) + 1) = ((x + 1 : Nat) : Int) := by rw [w64 (by omega) (by omega)]; omega
    refine Ev.pos (by omega) (Ev.pos (by rw [rectN_len]; omega) ?_)
    rw [ew]
    have := ih (x + 1) (by omega)
    rw [show w * y + (x + 1) = (w * y + x) + 1 by omega, rectN_succ, Nat.mul_add_mod, Nat.mod_eq_of_lt (show x < w by omega), Nat.mul_add_div (by omega), Nat.div_eq_of_lt (show x < w by omega), Nat.add_zero] at this
    rw [h7] at this ⊢
    exact this
theorem implRect_l (w h : Nat) (hw : 1 ≤ w) (hw2 : w ≤ 1000) (hh : h ≤ 1000) (hm : w * h ≤ 1000000) : ∀ (q y : Nat), y + q = h → Ev (fun k => impl_RectangleRegion.l0 k (w : Int) (rectN w (w * y)) (h : Int) (y : Int)) (rectN w (w * h), 0) := by
  intro q
  induction q with
  | zero =>
    intro y hy
    refine Ev.succ ?_
    simp only [impl_RectangleRegion.l0]
    exact Ev.neg (by omega) (Ev.of_eq (Ev.now _) (by rw [show y = h by omega]))
  | succ q ih =>
    intro y hy
    refine Ev.succ ?_
    simp only [impl_RectangleRegion.l0]
    have ew : wrap64 ((y : Int) + 1) = ((y + 1 : Nat) : Int) := by rw [w64 (by omega) (by omega)]; omega
    refine Ev.pos (by omega) ?_
    have := implRect_l1 w h y hw hw2 hm (by omega) (y : Int) (h : Int) (y : Int) rfl (by rw [ew]; exact ih (y + 1) (by omega)) w 0 (by omega)
    exact this
theorem rect_nat {w h : Int} (hw : 1 ≤ w ∧ w ≤ 20) (hh : 1 ≤ h ∧ h ≤ 20) : w.toNat * h.toNat ≤ 400 ∧ wrap64 (w * h) = w * h ∧ w * h = ((w.toNat * h.toNat : Nat) : Int) := by
  have h1 := Nat.mul_le_mul (show w.toNat ≤ 20 by omega) (show h.toNat ≤ 20 by omega)
  have h2 : w * h = ((w.toNat * h.toNat : Nat) : Int) := by rw [Int.natCast_mul, Int.toNat_of_nonneg (by omega), Int.toNat_of_nonneg (by omega)]
  refine ⟨h1, ?_, h2⟩
  rw [h2, w64 (by omega) (by omega)]
theorem specRect_ev (w h : Int) : Ev (fun k => spec_RectangleRegion.f k w h) (rectR w h) := by
  unfold spec_RectangleRegion.f rectR
  simp only [in_eq, Option.bind_some, decide_eq_true_eq]
  by_cases hw : 1 ≤ w ∧ w ≤ 20
  · refine Ev.pos hw ?_
    by_cases hh : 1 ≤ h ∧ h ≤ 20
    · refine Ev.pos hh ?_
      obtain ⟨g1, g2, g3⟩ := rect_nat hw hh
      rw [g2]
      by_cases hg : w * h > 40
      · exact Ev.pos hg (Ev.of_eq (Ev.now _) (by rw [if_neg (by omega)]))
      · refine Ev.neg hg (Ev.of_eq (r := (rectN w.toNat (w.toNat * h.toNat), 0)) ?_ (by rw [if_pos ⟨hw, hh, by omega⟩]))
        have := specRect_l w.toNat h.toNat (by omega) (by omega) (by omega) (by omega) (w.toNat * h.toNat) 0 (by omega)
        rw [Int.toNat_of_nonneg (by omega), Int.toNat_of_nonneg (by omega)] at this
        unfold spec_l10Rectangle.f
        exact Ev.bind this (Ev.now _)
    · exact Ev.neg hh (Ev.of_eq (Ev.now _) (by rw [if_neg fun g => hh g.2.1]))
  · exact Ev.neg hw (Ev.of_eq (Ev.now _) (by rw [if_neg fun g => hw g.1]))
theorem implRect_out {w h : Int} : Ev (fun k => impl_RectangleRegion.j0 k w h true) (([] : List Cell), (2 : Int)) := by
  refine Ev.succ ?_
  simp only [impl_RectangleRegion.j0]
  exact Ev.pos (by trivial) (Ev.now _)
theorem implRect_ev (w h : Int) : Ev (fun k => impl_RectangleRegion.f k w h) (rectR w h) := by
  unfold impl_RectangleRegion.f rectR
  simp only [within_eq, Option.bind_some, decide_eq_true_eq]
  by_cases hw : 1 ≤ w ∧ w ≤ 20
  · refine Ev.pos hw ?_
    by_cases hh : 1 ≤ h ∧ h ≤ 20
    · refine Ev.pos hh ?_
      obtain ⟨g1, g2, g3⟩ := rect_nat hw hh
      rw [g2]
      by_cases hg : w * h > 40
      · rw [decide_eq_true hg, if_neg (by omega)]
        exact implRect_out
      · rw [decide_eq_false hg, if_pos ⟨hw, hh, by omega⟩]
        refine Ev.succ ?_
        simp only [impl_RectangleRegion.j0]
        refine Ev.neg (by simp) ?_
        have := implRect_l w.toNat h.toNat (by omega) (by omega) (by omega) (by omega) h.toNat 0 (by omega)
        rw [Int.toNat_of_nonneg (by omega), Int.toNat_of_nonneg (by omega)] at this
        exact this
    · refine Ev.neg hh ?_
      rw [if_neg fun g => hh g.2.1]
      exact implRect_out
  · refine Ev.neg hw ?_
    rw [if_neg fun g => hw g.1]
    exact implRect_out
def connB (l : List Cell) : Bool := oneB (partsR aroundC l)
theorem shape_fine {l : List Cell} (h : shapeB l = true) : l ≠ [] ∧ l.Nodup ∧ l.all wfC = true ∧ l.length ≤ 1048576 := by
  obtain ⟨h1, h2, h3, h4⟩ := shapeB_iff.1 h
  refine ⟨shape_ne h, h2.imp fun {a b} hab e => ?_, List.all_eq_true.2 fun c hc => wfC_ok (h1 c hc), by omega⟩
  subst e
  unfold ltC at hab
  omega
theorem region_shape {l : List Cell} (h : regionB l = true) : shapeB l = true := by
  unfold regionB at h
  rw [Bool.and_eq_true] at h
  exact h.1
end Go.Proofs.Ytabdmdkoffpppaa.L
end
section
namespace Go.Proofs.Ytabdmdkoffpppaa.L
open Go.RowKit Go.Proofs.YtabdmdkoffpppaaW.PrintWords Go.Proofs.YtabdmdkoffpppaaW.PrintLast Go.Proofs.YtabdmdkoffpppaaW.PrintMore Go.Proofs.Ytabdmdkoffpppaa.F
set_option linter.unusedVariables false
set_option linter.unusedSimpArgs false
theorem rectDraw_ex (cs : List Int) (hl : cs.length ≤ 1000000000000000000) (hb : ∀ x ∈ cs, 0 ≤ x ∧ x ≤ 255) : Ex (fun k => spec_DrawRectangleRegion.f k cs) fun _ => True := by
  unfold spec_DrawRectangleRegion.f
  refine Ex.bind (from_ex cs hl hb) fun ⟨c1, a1, s1⟩ ⟨e1, e2, h1⟩ => ?_
  simp only at e1 e2 h1
  subst e1 e2
  refine Ex.bind0 rfl ?_
  refine Ex.next h1 9 (by omega) fun v a2 s2 h2 hv0 hv1 => ?_
  have := hv1 (by omega)
  refine Ex.pos (by simp only; omega) (Ex.pos (by simp only [List.length_cons, List.length_nil]; omega) ?_)
  refine Ex.next h2 9 (by omega) fun u a3 s3 h3 hu0 hu1 => ?_
  have := hu1 (by omega)
  exact Ex.pos (by simp only; omega) (Ex.pos (by simp only [List.length_cons, List.length_nil]; omega) (Ex.now trivial))
theorem implConn_ev (l : List Cell) (hl : l.length ≤ 1048576) : Ev (fun k => impl_IsConnected.f k l) (shapeB l && connB l) := by
  have hs : small l := by unfold small; omega
  unfold impl_IsConnected.f
  refine Ev.bind (implIsShape_ev l hs) ?_
  by_cases h : shapeB l = true
  · obtain ⟨h1, h2, h3, _⟩ := shape_fine h
    refine Ev.pos h (Ev.bind (pa_conn l hl h1 h2 h3) (Ev.of_eq (Ev.now _) ?_))
    simp [h, connB]
  · exact Ev.neg h (Ev.of_eq (Ev.now _) (by simp [h]))
theorem rest_shape {l : List Cell} {s : List Int} (h : codeOf l s = 0) (h0 : restF s 0 l ≠ []) : shapeB (normalL (restF s 0 l)) = true := by
  obtain ⟨h1, h2, h3⟩ := codeOf_zero h
  have hsh := region_shape h1
  obtain ⟨g1, g2, g3, g4⟩ := shapeB_iff.1 hsh
  have hsub := restF_sub s l 0
  have ho : ∀ c ∈ restF s 0 l, okC c := fun c hc => g1 c (hsub.mem hc)
  have hreg : ∀ c ∈ l, 0 ≤ c.f0 ∧ c.f0 ≤ 100 ∧ 0 ≤ c.f1 ∧ c.f1 ≤ 100 := fun c hc => by
    have hle := least_le hc
    have hn := region_normal h1
    have hk := g1 c hc
    unfold okC ok1 at hk
    unfold regionB at h1
    simp only [Bool.and_eq_true, decide_eq_true_eq] at h1
    have e := h1.2
    omega
  have hlen := hsub.length_le
  have hp := List.length_pos_iff.2 h0
  rw [normalL_shift h0 ho]
  obtain ⟨⟨c, hc, ec⟩, ⟨d, hd, ed⟩⟩ := least_mem h0
  refine shapeB_iff.2 ⟨fun x hx => ?_, ?_, ?_, ?_⟩
  · obtain ⟨y, hy, rfl⟩ := List.mem_map.1 hx
    have hle := least_le hy
    have q1 := hreg y (hsub.mem hy)
    have q2 := hreg c (hsub.mem hc)
    have q3 := hreg d (hsub.mem hd)
    unfold okC ok1 shiftC
    simp only
    omega
  · rw [List.pairwise_map]
    refine (g2.sublist hsub).imp fun {a b} hab => ?_
    unfold ltC shiftC at *
    simp only
    omega
  · rw [List.length_map]; omega
  · rw [List.length_map]; omega
end Go.Proofs.Ytabdmdkoffpppaa.L
namespace Go.Proofs.Ytabdmdkoffpppaa.Pure
open Go.RowKit Go.Proofs.YtabdmdkoffpppaaW.PrintWords Go.Proofs.Ytabdmdkoffpppaa.F Go.Proofs.Ytabdmdkoffpppaa.L
set_option linter.unusedVariables false
theorem FnRestParts (l0 : List Int) (hv0 : l0.length ≤ 9223372036854775807 ∧ ∀ x ∈ l0, (Lit.int .u8 x).wf = true) : ∃ k, laws_FnRestParts.f k l0 = some true := by
  refine Ev.rounds ?_
  obtain ⟨hm, hv⟩ := hv0
  have hb : ∀ x ∈ l0, 0 ≤ x ∧ x ≤ 255 := fun x hx => by
    have := hv x hx
    have m0 : IntKind.u8.min = 0 := by decide
    have m1 : IntKind.u8.max = 255 := by decide
    simp [Lit.wf, m0, m1] at this
    omega
  unfold laws_FnRestParts.f
  refine Ev.bind0 rfl ?_
  by_cases hbig : (l0.length : Int) > 4096
  · exact Ev.pos (by simpa using hbig) (Ev.now _)
  refine Ev.neg (by simpa using hbig) ?_
  obtain ⟨⟨l, s⟩, e1, q1, q2⟩ := cutDraw_ex l0 (by omega) hb
  obtain ⟨⟨w, h⟩, e2, _⟩ := rectDraw_ex l0 (by omega) hb
  simp only at q1 q2
  have hrl := restP_len l s
  have hrs : small (restP l s).1 := by unfold small; omega
  have hxl := rectR_len w h
  have hxs : small (rectR w h).1 := by unfold small; omega
  have eD : Ev (fun k => spec_DrawRestParts.f k l0) (l, s) := by
    unfold spec_DrawRestParts.f
    exact Ev.bind e1 (Ev.now _)
  refine Ev.bind eD (Ev.bind (implRestP_ev l s (by omega) (by omega)) (Ev.bind (specRestP_ev l s (by omega) (by omega)) (Ev.bind e2 (Ev.bind (implRect_ev w h) (Ev.bind (specRect_ev w h) ?_)))))
  refine Ev.pos rfl (Ev.bind (likeI_ev _ hrs) (Ev.pos rfl (Ev.pos rfl (Ev.bind (likeC_ev _ hxs) ?_))))
  refine Ev.step (fun k => laws_FnRestParts.j0.eq_2 _ _ _ _ _ _) (Ev.neg (by simp) ?_)
  by_cases h0 : (restP l s).2 = 0
  · refine Ev.pos h0 (Ev.bind (implCut_ev l s (by omega) (by omega)) ?_)
    have g1 : codeOf l s = 0 := by
      refine Decidable.byContradiction fun g => ?_
      unfold restP at h0
      rw [if_neg g] at h0
      exact g h0
    have eR : restP l s = (sizesP (partsR aroundC (restF s 0 l)), 0) := by unfold restP; rw [if_pos g1]
    have hlen := rest_lenS g1
    rw [eR]
    by_cases g2 : s.length = l.length
    · have eC : cutR l s = ([], 5) := by unfold cutR; rw [if_pos g1, if_pos g2]
      have e0 : restF s 0 l = [] := (rest_empty g1).2 g2
      rw [eC, e0]
      exact Ev.neg (by simp) (Ev.now _)
    · have eC : cutR l s = (normalL (restF s 0 l), 0) := by unfold cutR; rw [if_pos g1, if_neg g2]
      have e0 : restF s 0 l ≠ [] := fun e => g2 ((rest_empty g1).1 e)
      have hsub := restF_sub s l 0
      have ho : ∀ c ∈ restF s 0 l, okC c := fun c hc => (shapeB_iff.1 (region_shape (codeOf_zero g1).1)).1 c (hsub.mem hc)
      have hsum := sizes_sum aroundC (restF s 0 l)
      rw [eC]
      refine Ev.pos rfl (Ev.bind (sum_ev _ (sizes_pos _) (by rw [hsum]; omega) (by rw [eR] at hrs; exact hrs)) (Ev.pos ?_ ?_))
      · show _ = wrap64 ((l.length : Int) - (s.length : Int))
        rw [hsum, w64 (by omega) (by omega)]; omega
      · refine Ev.bind (implConn_ev _ (by show (normalL _).length ≤ _; rw [normalL_len]; omega)) (Ev.of_eq (Ev.now _) ?_)
        have hone := sizes_one aroundC (restF s 0 l) e0
        rw [rest_shape g1 e0, Bool.true_and]
        unfold connB
        rw [parts_normal e0 ho]
        show (((((sizesP (partsR aroundC (restF s 0 l))).length : Int) == 1) == oneB (partsR aroundC (restF s 0 l))) = true)
        by_cases g : oneB (partsR aroundC (restF s 0 l)) = true
        · rw [g, hone.2 g]; rfl
        · have : (((sizesP (partsR aroundC (restF s 0 l))).length : Int) == 1) = false := beq_eq_false_iff_ne.2 fun e => g (hone.1 (by omega))
          rw [this, Bool.eq_false_iff.2 g]; rfl
  · exact Ev.neg h0 (Ev.now _)
end Go.Proofs.Ytabdmdkoffpppaa.Pure
end
