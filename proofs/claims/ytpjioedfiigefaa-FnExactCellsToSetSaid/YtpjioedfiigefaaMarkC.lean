/- Lists of cells: marked from any number. -/
import Derived.Test.YtpjioedfiigefaaCells
import Derived.Test.YtpjioedfiigefaaFx0
import Derived.Test.YtpjioedfiigefaaFx14
namespace Go.Proofs.Ytpjioedfiigefaa.L
open Go.RowKit Go.Proofs.YtpjioedfiigefaaW.PrintWords Go.Proofs.YtpjioedfiigefaaW.PrintLast Go.Proofs.YtpjioedfiigefaaW.PrintMore Go.Proofs.Ytpjioedfiigefaa.F
set_option linter.unusedVariables false
set_option linter.unusedSimpArgs false

def markedCF (m : Int) (n : Nat) : List Cell := (List.range n).map fun (i : Nat) => ⟨m + 2 * (i : Int), m + 1 + 2 * (i : Int)⟩
theorem markedCF_len (m : Int) (n : Nat) : (markedCF m n).length = n := by simp [markedCF]
theorem markedCF_get (m : Int) (n i : Nat) (h : i < n) : (markedCF m n)[i]? = some ⟨m + 2 * (i : Int), m + 1 + 2 * (i : Int)⟩ := by
  simp [markedCF, h]
theorem markCellS_from (a : List Cell) (m : Int) (h0 : 0 ≤ m) (h1 : m ≤ 4611686018427387904) (ha : fits a) : Ev (fun k => laws_markCellS.f k a m) (m + 2 * (a.length : Int), markedCF m a.length) := by
  unfold laws_markCellS.f
  have hs := ha.small
  unfold fits at ha
  have := loop_list a (fun k i (s : List Cell × Int) => laws_markCellS.l0 k s.1 s.2 i) (fun pre _ s => (m + 2 * (a.length : Int), s.1.take pre.length ++ (markedCF m a.length).drop pre.length))
    (fun pre s => s.1.length = a.length ∧ s.2 = m + 2 * (pre.length : Int)) ?_ ?_ (a, m) ⟨rfl, by simp⟩
  · simpa using this
  · rintro ⟨l, n⟩ ⟨hl, hn⟩
    simp only at hl hn
    simp only [laws_markCellS.l0, hl, len_lt, if_false]
    refine Ev.of_eq (Ev.now _) ?_
    rw [List.take_of_length_le (by omega), List.drop_of_length_le (by rw [markedCF_len]; exact Nat.le_refl _), List.append_nil, hn]
  · rintro pre c suf ⟨l, n⟩ hx ⟨hl, hn⟩ ih
    have hp := pre_len hx
    simp only at hl hn
    subst hn
    have hlt : ((pre.length : Int) < (l.length : Int)) = True := by rw [hl]; exact pre_lt hx
    have e1 : wrap64 (m + 2 * (pre.length : Int) + 1) = m + 1 + 2 * (pre.length : Int) := by rw [w64 (by omega) (by omega)]; omega
    have e2 : wrap64 (m + 1 + 2 * (pre.length : Int) + 1) = m + 2 * ((pre.length : Int) + 1) := by rw [w64 (by omega) (by omega)]; omega
    have e3 : rd_T67 (l.set pre.length (⟨m + 2 * (pre.length : Int), (rd_T67 l (pre.length : Int)).f1⟩ : Cell)) (pre.length : Int) = ⟨m + 2 * (pre.length : Int), (rd_T67 l (pre.length : Int)).f1⟩ := by
      simp [rd_T67, List.getD, hl, hp]
    simp only [laws_markCellS.l0, hlt, pre_0, if_true, Option.bind_some, Int.toNat_natCast, e3, List.set_set, e1, e2, pre_w hx hs]
    refine Ev.of_eq (ih (l.set pre.length ⟨m + 2 * (pre.length : Int), m + 1 + 2 * (pre.length : Int)⟩, m + 2 * ((pre.length : Int) + 1)) ⟨by simpa using hl, by simp⟩) ?_
    refine Prod.ext rfl ?_
    simp only [List.length_append, List.length_singleton]
    rw [List.take_add_one, List.getElem?_set_self (by omega), List.take_set_of_le (Nat.le_refl _), List.drop_eq_getElem_cons (i := pre.length) (by rw [markedCF_len]; omega)]
    have := markedCF_get m a.length pre.length hp
    rw [List.getElem?_eq_getElem (by rw [markedCF_len]; omega)] at this
    simp [Option.some.inj this]
end Go.Proofs.Ytpjioedfiigefaa.L
