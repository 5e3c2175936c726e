-- PRINTED by print.py (a twelfth state) out of the translation. Not trusted: Lean checks it.
import Derived.Test.YtabdmdkoffpppaaFx0
namespace Go.Proofs.Ytabdmdkoffpppaa.F
open Go.RowKit Go.Proofs.YtabdmdkoffpppaaW.PrintWords Go.Proofs.YtabdmdkoffpppaaW.PrintLast Go.Proofs.YtabdmdkoffpppaaW.PrintMore
attribute [local go_sem] max2_int min2_int max_two min_two max_three min_three max_four min_four   -- for this text's walks alone
set_option linter.unusedVariables false
set_option linter.unusedSimpArgs false

/-! ### slices_IndexFunc_int64_int64: function 133 -/
/-- The first place at which p holds, from i on; -1 if there is none. -/
def fI (p : Int → Bool) : List Int → Int → Int
  | [], _ => -1
  | a :: r, i => if p a then i else fI p r (i + 1)
theorem fI_any (p : Int → Bool) : ∀ (l : List Int) (i : Int), 0 ≤ i → decide (0 ≤ fI p l i) = l.any p
  | [], i, h => by simp [fI]
  | a :: r, i, h => by
    unfold fI
    cases hp : p a with
    | true => simp [hp, h]
    | false => simp [hp, fI_any p r (i + 1) (by omega)]
theorem fI_drop (p : Int → Bool) (l : List Int) (j : Nat) (hj : j < l.length) : fI p (l.drop j) (j : Int) = if p (rd l (j : Int)) = true then (j : Int) else fI p (l.drop (j + 1)) ((j + 1 : Nat) : Int) := by
  rw [← List.getElem_cons_drop hj, fI]
  have : rd l (j : Int) = l[j] := by simp [rd, List.getD, hj]
  rw [this]
  rfl
set_option maxHeartbeats 4000000 in
theorem idxI_calls (g : Nat) (lb : Array Value) (p : Int → Bool) (eg : ∀ args w, (callFunc g args).run Try.prog w = .ok (.enter g args) w) (A0 : Option Addr) (c0 : Nat) (l0 : List Int) (w : World) (hr0 : Kd.C (Kd.int .i64) w A0 l0.length l0) (hn : l0.length ≤ 1000000000000)
    (hp : ∀ x ∈ l0, ∀ q, Calls Try.prog g (#[.int .i64 x] ++ lb) (w.drewN q) fun e w' => e = .returned (.bool (p x)) ∧ ∃ q', w' = (w.drewN q).drewN q') :
    Calls Try.prog 133 #[.slice A0 l0.length c0, .func (.func g) #[] lb] w fun e w' => e = .returned (.int .i64 (fI p l0 0)) ∧ ∃ q, w' = w.drewN q := by
  have HR := Aside0.mk hr0
  have HP := Aside0.mk hp
  have HN := Aside0.mk hn
  clear hr0 hp hn
  go_enter Try.func133, Try.ntmps133
  go_wp2
  go_loopg [5, 8] l0.length (fun gg _ s8 wr => ∃ kk q : Nat, s8 = .int .i64 kk ∧ wr = w.drewN q ∧ Aside0 (kk ≤ l0.length ∧ l0.length - kk ≤ gg ∧ fI p l0 0 = fI p (l0.drop kk) kk))
  case atStart => exact ⟨0, 0, rfl, rfl, ⟨Nat.zero_le _, by omega, rfl⟩⟩
  case round =>
    obtain ⟨kk, q, rfl, rfl, HK⟩ := hrel
    by_cases hlt : kk < l0.length
    · have hltz : decide ((kk : Int) < (l0.length : Int)) = true := decide_eq_true (by omega)
      have hmem : rd l0 (kk : Int) ∈ l0 := by
        have : rd l0 (kk : Int) = l0[kk] := by simp [rd, List.getD, hlt]
        rw [this]; exact List.getElem_mem _
      have HC := Aside0.mk (HP.out _ hmem)
      have HD := Aside0.mk (fI_drop p l0 kk hlt)
      have p9 : 0 ≤ (kk : Int) := by omega
      have q9 : (kk : Int) < (l0.length : Int) := by omega
      obtain ⟨ad9, e9, hx9⟩ := Kd.at_int HR.out (kk : Int) p9 q9
      cases e9
      rw [Int.toNat_natCast] at hx9
      replace p9 := eq_true p9
      replace q9 := eq_true q9
      cases hq : p (rd l0 (kk : Int)) with
      | true =>
        have HQ := Aside0.mk hq
        have HCC := HC.out
        simp only [hq] at HCC
        have HX := Aside0.mk HCC
        clear HCC
        clear hq
        go_wp2_with fail
        refine (HX.out _).mono ?_
        rintro e w' ⟨rfl, q', rfl⟩
        go_wp2
        go_ret
        refine ⟨?_, _, rfl⟩
        rw [HK.out.2.2, HD.out, if_pos HQ.out]; rfl
      | false =>
        have HQ := Aside0.mk hq
        have HCC := HC.out
        simp only [hq] at HCC
        have HX := Aside0.mk HCC
        clear HCC
        clear hq
        go_wp2_with fail
        refine (HX.out _).mono ?_
        rintro e w' ⟨rfl, q', rfl⟩
        go_wp2
        go_roundg (l0.length - (kk + 1))
        case measure => have := HK.out; omega
        case rel =>
          refine ⟨kk + 1, _, ?_, rfl, ⟨by omega, by omega, ?_⟩⟩
          · have := HN.out
            rw [show wrap64 ((kk : Int) + 1) = ((kk + 1 : Nat) : Int) from by unfold wrap64; omega]
          · rw [HK.out.2.2, HD.out, if_neg (by rw [HQ.out]; simp)]
    · have hltz : decide ((kk : Int) < (l0.length : Int)) = false := decide_eq_false (by omega)
      have e : kk = l0.length := by have := HK.out.1; omega
      go_wp2
      go_ret
      refine ⟨?_, q, rfl⟩
      rw [HK.out.2.2, e, List.drop_length]; rfl

end Go.Proofs.Ytabdmdkoffpppaa.F
