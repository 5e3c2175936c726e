/- The row of FnExactHexShapes, with what it needs: text 7 of 11. -/
import Derived.Test.YtibbjiehblpmfaaKHS5
set_option maxHeartbeats 8000000
set_option maxRecDepth 100000
section
namespace Go.Proofs.Ytibbjiehblpmfaa.F
open Go.RowKit Go.Proofs.YtibbjiehblpmfaaW.PrintWords Go.Proofs.YtibbjiehblpmfaaW.PrintLast Go.Proofs.YtibbjiehblpmfaaW.PrintMore
attribute [local go_sem] max2_int min2_int max_two min_two max_three min_three max_four min_four
set_option linter.unusedVariables false
set_option linter.unusedSimpArgs false
open Go.Sort
open Go.Sort
theorem ne_parts {x y : S43} (h : x ≠ y) : ((x.f0 == y.f0) = false ∧ x.f0 ≠ y.f0 ∧ (x.f0 != y.f0) = true) ∨ ((x.f0 == y.f0) = true ∧ (x.f1 == y.f1) = false ∧ x.f1 ≠ y.f1 ∧ (x.f1 != y.f1) = true) := by
  by_cases e : x.f0 = y.f0
  · right
    have e2 : x.f1 ≠ y.f1 := by
      intro e2
      apply h
      cases x
      cases y
      simp_all
    simp [e, e2]
  · left
    simp [e]
theorem SW_set2 {w W : World} {b i : Nat} {d : Array S43} (h : SW id w b 0 (flatK encC 2 d) W) (hb : b < w.heap.size) (hi : i < d.size) (x : S43) : SW id w b 0 (flatK encC 2 (d.setIfInBounds i x)) ((W.setCell ⟨b, i * 2, none⟩ (.int .i64 x.f0)).setCell ⟨b, i * 2 + 1, none⟩ (.int .i64 x.f1)) := by
  have h1 := SW_set h hb (i * 2) (by rw [size_flatK]; omega) (.int .i64 x.f0)
  have h2 := SW_set h1 hb (i * 2 + 1) (by simp; omega) (.int .i64 x.f1)
  rw [flat_set d i hi x, Nat.zero_add, Nat.zero_add] at h2
  exact h2
def zc2 (n : Nat) : List Value := List.replicate (n * 2) (.int .i64 0)
theorem zc2_len (n : Nat) : (zc2 n).length = n * 2 := List.length_replicate
theorem clear2 {W : World} {b kk n c : Nat} (ty : TypeId) (hn : 0 < n) (h : ∀ j, j < n → (∃ x y, W.cell? ⟨b, (kk + j) * 2, none⟩ = some (.int .i64 x) ∧ W.cell? ⟨b, (kk + j) * 2 + 1, none⟩ = some (.int .i64 y)) ∧ W.frozen? ⟨b, (kk + j) * 2, none⟩ = false ∧ W.frozen? ⟨b, (kk + j) * 2 + 1, none⟩ = false) :
    (Builtin.clear_ #[36] ty #[.slice (some ⟨b, kk * 2, none⟩) n c]).run Try.prog W = .ok (.tuple #[]) (W.setCells b (kk * 2) (zc2 n)) := by
  have hv : ∀ w, (zeroValue 43).run Try.prog w = .ok (.agg #[.int .i64 0, .int .i64 0]) w := Try.zeroValue43
  have hzc : (Builtin.zeroCells #[.int .i64 0, .int .i64 0] n).toList = zc2 n := by
    apply List.ext_getElem
    · simp [Builtin.zeroCells, zc2]
    · intro i h1 h2
      have : i % 2 = 0 ∨ i % 2 = 1 := by omega
      rcases this with e | e <;> simp [Builtin.zeroCells, zc2, e]
  have hall : ∀ t, t < n * 2 → (W.cell? ⟨b, kk * 2 + t, none⟩).isSome = true ∧ W.frozen? ⟨b, kk * 2 + t, none⟩ = false := by
    intro t ht
    obtain ⟨⟨x, y, e1, e2⟩, f1, f2⟩ := h (t / 2) (by omega)
    rcases (show t % 2 = 0 ∨ t % 2 = 1 by omega) with e | e
    · rw [show (kk + t / 2) * 2 = kk * 2 + t by omega] at e1 f1
      rw [e1]
      exact ⟨rfl, f1⟩
    · rw [show (kk + t / 2) * 2 + 1 = kk * 2 + t by omega] at e2 f2
      rw [e2]
      exact ⟨rfl, f2⟩
  have hst := run_storeCells_cells (P := Try.prog) b (kk * 2) (zc2 n) 0 W (fun j hj => (hall j (by rwa [zc2_len] at hj)).1) (fun j hj => (hall j (by rwa [zc2_len] at hj)).2) (by intro v hv'; rw [List.eq_of_mem_replicate hv']; rfl)
  simp only [Nat.add_zero] at hst
  obtain ⟨m, rfl⟩ : ∃ m, n = m + 1 := ⟨n - 1, by omega⟩
  simp [Builtin.clear_, run_underlying Try.underlying36, hv, Value.cells, hzc, hst]
def impl_Cell_71.f (l0 : List S43) : Option (List S43) := if 0 < l0.length ∧ l0.length < 4611686018427387904 then some (compF l0) else none
set_option maxHeartbeats 4000000 in
set_option maxRecDepth 1000000 in
theorem impl_Cell_71.raw {w : World} {b cap : Nat} (d : Array S43) (hH : HoldsK encC 2 w b 0 d) (hlt : b < w.heap.size) (hcap : d.size ≤ cap) (hm : cap ≤ 9223372036854775807) (h0 : 0 < d.size) (hsz : d.size < 4611686018427387904) :
    Calls Try.prog 71 #[.slice (some ⟨b, 0, none⟩) d.size cap] w fun e w' => ∃ (q : Nat) (dk : Array S43) (F : Array Value), e = .returned (.slice (some ⟨b, 0, none⟩) q cap) ∧ q ≤ dk.size ∧ dk.size = d.size ∧ dk.toList.take q = compF d.toList ∧ F.size = dk.size * 2 ∧ F.toList.take (q * 2) = (flatK encC 2 dk).toList.take (q * 2) ∧ SW id w b 0 F w' := by
  have hu55 := Try.underlying43
  have HH := aM (show Holds id w b 0 (flatK encC 2 d) from hH)
  have HL := aM hlt
  have hkey : (d.toList.map id).length = d.size := by simp
  have HK := aM hkey
  clear hH hlt hkey
  by_cases h2 : d.size < 2
  · go_enter Try.func71, Try.ntmps71
    go_wp2
    go_ret
    have h1 := AllKeep.one (key := id) (d := d) (by omega)
    refine ⟨d.size, d, flatK encC 2 d, rfl, Nat.le_refl _, rfl, ?_, by simp, rfl, SW.start HH.out⟩
    have := h1.2
    rw [List.take_of_length_le (by rw [HK.out]; omega), List.map_id] at this
    rw [List.take_of_length_le (by simp), this]
  · go_enter Try.func71, Try.ntmps71
    go_wp2
    go_loopg [3] d.size (fun gh s3 wr => ∃ k q : Nat, 1 ≤ k ∧ k ≤ d.size ∧ d.size - k ≤ gh ∧ s3 = .int .i64 k ∧ wr = w.drewN q ∧ Aside0 (AllKeep id d k))
    case atStart => exact ⟨1, 0, Nat.le_refl _, by omega, by omega, rfl, rfl, ⟨AllKeep.one (by omega)⟩⟩
    case round =>
      obtain ⟨k, q, hk1, hk, hgh, rfl, rfl, A⟩ := hrel
      by_cases hlt : k < d.size
      · obtain ⟨⟨c1, c2⟩, f1, f2⟩ := cells_at HH.out hlt
        obtain ⟨⟨c3, c4⟩, f3, f4⟩ := cells_at HH.out (i := k - 1) (by omega)
        generalize hx : d[k]! = x at c1 c2
        generalize hy : d[k - 1]! = y at c3 c4
        have B : Aside0 (d[k]! = x ∧ d[k - 1]! = y) := ⟨⟨hx, hy⟩⟩
        clear hx hy
        have i1 : IntKind.i64.wrap ((k : Int) - 1) = (k : Int) - 1 := IntWalk.i64_in _ (by omega)
        have i2 : (1 : Int) ≤ (k : Int) := by omega
        have i3 : ((k : Int) - 1).toNat = k - 1 := by omega
        have i4 : (k : Int) - 1 < (d.size : Int) := by omega
        have i5 : (0 : Int) ≤ (k : Int) - 1 := by omega
        by_cases hdup : x = y
        · subst hdup
          go_wp2_with fail
          go_quiet (fail)
          go_wp2
          clear c1 c2 c3 c4 f1 f2 f3 f4 i1 i2 i3 i4 i5
          go_loopg [3, 5] d.size (fun gh s3 s5 wr => ∃ (kk k2 : Nat) (dk : Array S43), s3 = .int .i64 kk ∧ s5 = .int .i64 k2 ∧ 1 ≤ k2 ∧ k + k2 ≤ d.size ∧ d.size - (k + k2) ≤ gh ∧ Aside0 (SW id w b 0 (flatK encC 2 dk) wr) ∧ Aside0 (CompIv id d (k + k2) kk dk))
          case atStart => exact ⟨k, 1, d, rfl, rfl, Nat.le_refl _, by omega, by omega, ⟨(SW.start HH.out).drewN _⟩, ⟨CompIv.start A.out (by omega) hlt (by rw [B.out.1, B.out.2])⟩⟩
          case round =>
            obtain ⟨kk, k2, dk, rfl, rfl, h1, hle, hg2, W2, I2⟩ := hrel
            have hkk := I2.out.lt
            have hds := I2.out.size
            have hHk : Holds id wr b 0 (flatK encC 2 dk) := W2.out.holds HL.out HH.out (by rw [size_flatK, size_flatK, hds])
            by_cases hlt2 : k + k2 < d.size
            · obtain ⟨⟨m1, m2⟩, _⟩ := cells_at hHk (i := k + k2) (by omega)
              obtain ⟨⟨p1, p2⟩, _⟩ := cells_at hHk (i := k + k2 - 1) (by omega)
              obtain ⟨⟨q1, q2⟩, q3, q4⟩ := cells_at hHk (i := kk) (by omega)
              rw [I2.out.high (k + k2) (by omega)] at m1 m2
              rw [I2.out.high (k + k2 - 1) (by omega)] at p1 p2
              rw [show (k + k2) * 2 = k * 2 + k2 * 2 by omega] at m1 m2
              rw [show (k + k2 - 1) * 2 = k * 2 + (k2 - 1) * 2 by omega] at p1 p2
              clear hHk
              generalize hu : d[k + k2]! = u at m1 m2
              generalize hv : d[k + k2 - 1]! = v at p1 p2
              generalize dk[kk]! = old at q1 q2
              have C : Aside0 (d[k + k2]! = u ∧ d[k + k2 - 1]! = v) := ⟨⟨hu, hv⟩⟩
              clear hu hv
              have i1 : IntKind.i64.wrap ((k2 : Int) - 1) = (k2 : Int) - 1 := IntWalk.i64_in _ (by omega)
              have i2 : (1 : Int) ≤ (k2 : Int) := by omega
              have i3 : ((k2 : Int) - 1).toNat = k2 - 1 := by omega
              have i4 : (k2 : Int) - 1 < ((d.size - k : Nat) : Int) := by omega
              have i5 : (0 : Int) ≤ (k2 : Int) - 1 := by omega
              have i6 : (k2 : Int) < ((d.size - k : Nat) : Int) := by omega
              by_cases huv : u = v
              · subst huv
                go_wp2_with fail
                go_quiet (fail)
                go_wp2
                go_roundg (d.size - (k + (k2 + 1)))
                case measure => omega
                case rel => exact ⟨kk, k2 + 1, dk, rfl, by go_num, by omega, by omega, Nat.le_refl _, ⟨W2.out.drewN _⟩, ⟨I2.out.skip hlt2 (by rw [C.out.1, C.out.2])⟩⟩
              · have hne := ne_parts huv
                have HU := aM huv
                clear huv
                rcases hne with ⟨n1, n2, n3⟩ | ⟨n1, n2, n3, n4⟩
                all_goals
                  go_wp2_with fail
                  go_quiet (fail)
                  go_wp2
                  go_roundg (d.size - (k + (k2 + 1)))
                  case measure => omega
                  case rel => exact ⟨kk + 1, k2 + 1, dk.setIfInBounds kk u, by go_num, by go_num, by omega, by omega, Nat.le_refl _, ⟨SW_set2 (W2.out.drewN nq) HL.out (by omega) u⟩, ⟨by have := I2.out.keep hlt2 (by rw [C.out.1, C.out.2]; exact HU.out); rwa [C.out.1] at this⟩⟩
            · have hend : k + k2 = d.size := by omega
              have i1 : ¬ (k2 : Int) < ((d.size - k : Nat) : Int) := by omega
              have i2 : kk < cap := by omega
              have hcl : ∀ ty, (Builtin.clear_ #[36] ty #[.slice (some ⟨b, kk * 2, none⟩) (d.size - kk) (cap - kk)]).run Try.prog wr = .ok (.tuple #[]) (wr.setCells b (kk * 2) (zc2 (d.size - kk))) := fun ty => clear2 ty (by omega) (fun j hj => by have := cells_at hHk (i := kk + j) (by omega); exact ⟨⟨_, _, this.1⟩, this.2⟩)
              clear hHk
              go_wp2
              go_ret
              obtain ⟨F', hs', ht', hw'⟩ := SW_clear W2.out HL.out (kk * 2) (zc2 (d.size - kk)) (by rw [zc2_len, size_flatK]; omega)
              rw [Nat.zero_add, List.map_id] at hw'
              have hI := I2.out
              rw [hend] at hI
              rw [size_flatK] at hs'
              refine ⟨kk, rfl, dk, by omega, by omega, ?_, F', hs', ht', hw'⟩
              have hlow := hI.low
              rw [List.map_id, List.map_id, List.take_of_length_le (l := d.toList) (by simp)] at hlow
              exact hlow
        · have hne := ne_parts hdup
          have HU := aM hdup
          clear hdup
          rcases hne with ⟨n1, n2, n3⟩ | ⟨n1, n2, n3, n4⟩
          all_goals
            go_wp2_with fail
            go_quiet (fail)
            go_wp2
            go_roundg (d.size - (k + 1))
            case measure => omega
            case rel => exact ⟨k + 1, q + nq, by omega, by omega, Nat.le_refl _, by go_num, rfl, ⟨A.out.step (by omega) hlt (by rw [B.out.1, B.out.2]; exact HU.out)⟩⟩
      · obtain rfl : k = d.size := by omega
        go_wp2
        go_ret
        refine ⟨d.size, d, flatK encC 2 d, rfl, Nat.le_refl _, rfl, ?_, by simp, rfl, (SW.start HH.out).drewN q⟩
        have := A.out.2
        rw [List.take_of_length_le (by rw [HK.out]; omega), List.map_id] at this
        rw [List.take_of_length_le (by simp), this]
theorem impl_Cell_71.calls (P0_ : Nat → Prop) (u9000_ : Value) (l0 : List S43) (r : List S43) (w0 w : World) (hB : Below w0.heap.size w0 w) (ho0 : Kd.R k43 43 w w0.heap.size P0_ u9000_ l0) (h : impl_Cell_71.f l0 = some r) :
    Calls Try.prog 71 #[u9000_] w fun e w' => ∃ v0_ : Value, e = .returned (v0_) ∧ Kd.R k43 43 w' w0.heap.size (fun k_ => (P0_ k_ ∨ w.heap.size ≤ k_)) v0_ r ∧ Below w0.heap.size w0 w' ∧ Kept w w' (fun k_ => P0_ k_) := by
  unfold impl_Cell_71.f at h
  by_cases hl : 0 < l0.length ∧ l0.length < 4611686018427387904
  · rw [if_pos hl] at h
    obtain rfl := Option.some.inj h
    obtain ⟨g, cap, rfl, hbase, hlt, _⟩ := Kd.R_form ho0 hl.1
    have hH := R_holds ho0
    obtain ⟨hok, _, hb, hcap, hm, cur, hg, hc⟩ := R_openC ho0
    refine (show Calls Try.prog 71 #[.slice (some ⟨g, 0, none⟩) l0.length cap] w _ from impl_Cell_71.raw l0.toArray hH hlt hcap (by unfold maxLen at hm; omega) hl.1 hl.2).mono ?_
    rintro e w' ⟨q, dk, F, rfl, hq, hs, hl1, hF, hT, n, os, hw⟩
    have hs' : dk.size = l0.length := hs
    have hgw : w.grownBy w' (some g) := by
      rw [hw]
      refine ⟨rfl, rfl, rfl, ?_, fun k hk hne => ?_⟩
      · show w.heap.size ≤ ((w.heap.modify g _) ++ os).size
        simp
      · show ((w.heap.modify g _) ++ os)[k]? = w.heap[k]?
        rw [Array.getElem?_append_left (by simpa using hk), Array.getElem?_modify, if_neg]
        intro e
        exact hne (by rw [e])
    refine ⟨_, rfl, ?_, pw_below_grown hB (some g) hB.size hgw (fun k hk => by injection hk with hk; exact hk ▸ hb), ?_⟩
    · have h2 := R_closeC hok hb hm hg hc q hq (by omega) hF hT hw
      rw [hl1] at h2
      exact Kd.R_mono h2 (fun _ hk => .inl hk)
    · refine ⟨hgw.size, fun i hi hn => hgw.block i hi ?_⟩
      intro e
      injection e with e
      exact hn (e ▸ hok)
  · rw [if_neg hl] at h
    exact absurd h (by simp)
open Go.Sort
theorem equalF_rounds (a b : List S43) (hl : a.length = b.length) (hs : a.length ≤ 9223372036854775807) : ∀ (suf pre : List S43), a = pre ++ suf → ∀ k, suf.length < k → impl_Cell_33.l0 k a b (a.length : Int) (pre.length : Int) = some (decide (suf = b.drop pre.length)) := by
  intro suf
  induction suf with
  | nil =>
    intro pre hx k hk
    obtain ⟨k, rfl⟩ : ∃ m, k = m + 1 := ⟨k - 1, by omega⟩
    rw [List.append_nil] at hx
    subst hx
    simp only [impl_Cell_33.l0]
    rw [if_neg (by omega), List.drop_of_length_le (by omega)]
    rfl
  | cons c suf ih =>
    intro pre hx k hk
    obtain ⟨k, rfl⟩ : ∃ m, k = m + 1 := ⟨k - 1, by omega⟩
    have hla : a.length = pre.length + (suf.length + 1) := by rw [hx]; simp
    have hpb : pre.length < b.length := by omega
    have ea : rd_T43 a (pre.length : Int) = c := by
      unfold rd_T43
      rw [hx]
      simp [List.getD]
    have eb : rd_T43 b (pre.length : Int) = b[pre.length] := by
      unfold rd_T43
      rw [List.getD_eq_getElem?_getD, Int.toNat_natCast, List.getElem?_eq_getElem hpb]
      rfl
    have ew : wrap64 ((pre.length : Int) + 1) = ((pre ++ [c]).length : Int) := by
      rw [List.length_append, List.length_singleton]
      simp only [wrap64]
      omega
    have hi := ih (pre ++ [c]) (by rw [hx]; simp) k (by simp at hk; omega)
    rw [List.length_append, List.length_singleton] at hi ew
    simp only [impl_Cell_33.l0]
    rw [if_pos (by omega), if_pos (by omega), if_pos (by omega), if_pos (by omega), ea, eb, ew, hi, List.drop_eq_getElem_cons hpb]
    generalize b[pre.length] = e
    generalize b.drop (pre.length + 1) = t
    split
    · rename_i h
      have hne : c ≠ e := by
        rintro rfl
        simp at h
      simp [hne]
    · rename_i h
      have heq : c = e := by
        cases c
        cases e
        simp_all
      subst heq
      simp
theorem equal_rounds (a b : List S43) (hs : a.length ≤ 9223372036854775807) : ∃ k, impl_equalShapes.f k a b = some (decide (a = b)) := by
  refine ⟨a.length + 1, ?_⟩
  unfold impl_equalShapes.f impl_Cell_33.f
  by_cases hl : a.length = b.length
  · rw [if_pos (by omega)]
    have := equalF_rounds a b hl hs a [] rfl (a.length + 1) (by omega)
    simp only [List.length_nil, Int.natCast_zero, List.drop_zero] at this
    rw [this]
    rfl
  · rw [if_neg (by omega)]
    have : a ≠ b := fun e => hl (by rw [e])
    simp [this]
set_option maxHeartbeats 4000000 in
set_option maxRecDepth 1000000 in
theorem impl_Cell_65__impl_equalShapes.rawE {W0 w : World} {ok : Nat → Prop} {base b cap : Nat} (d : Array (El W0 ok)) (hA : At w base b cap d) (hS : Same W0 w ok) (hg : ¬ ok b) (h0 : 0 < d.size) (hsz : d.size < 4611686018427387904)
    (heq : ∀ (W : World) (dk : Array (El W0 ok)), SW El.v w b 0 dk W → ∀ x y : El W0 ok, Calls Try.prog 66 #[x.v, y.v] W fun e w' => e = .returned (.bool (decide (x.l = y.l))) ∧ ∃ n, w' = W.drewN n) :
    Calls Try.prog 65 #[.slice (some ⟨b, 0, none⟩) d.size cap, .func (.func 66) #[] #[]] w fun e w' => ∃ (q : Nat) (dk : Array (El W0 ok)) (n : Nat) (os : Array Obj), e = .returned (.slice (some ⟨b, 0, none⟩) q cap) ∧ q ≤ dk.size ∧ dk.size = d.size ∧ (dk.toList.take q).map El.l = compF (d.toList.map El.l) ∧ (dk.toList.take q).Sublist d.toList ∧ w' = sortWorld El.v w b 0 n dk os := by
  have hlt := hA.lt
  have hH := hA.holds
  have hcap := hA.size
  have hcm := hA.max
  have hm : cap ≤ 9223372036854775807 := by unfold maxLen at hcm; omega
  have hO : OneCell (El.v (W0 := W0) (ok := ok)) := El.one
  have hcl0 := hO.cells
  simp only [Value.cells] at hcl0
  have hst := hO.store Try.prog
  have HE := aM heq
  have HH := aM hH
  have HL := aM hlt
  have hkey : (d.toList.map El.l).length = d.size := by simp
  have HK := aM hkey
  clear heq hH hlt hS hA hcm hkey hg
  by_cases h2 : d.size < 2
  · go_enter Try.func65, Try.ntmps65
    go_wp2
    go_ret
    have h1 := AllKeep.one (key := El.l) (d := d) (by omega)
    have e : d.size = 1 := by omega
    refine ⟨d.size, d, 0, #[], rfl, Nat.le_refl _, rfl, ?_, by rw [List.take_of_length_le (by simp)]; exact List.Sublist.refl _, (sortWorld_start El.v w b 0 d HH.out).symm⟩
    have := h1.2
    rw [List.take_of_length_le (by rw [HK.out]; omega)] at this
    rw [List.take_of_length_le (by simp), this]
  · go_enter Try.func65, Try.ntmps65
    go_wp2
    go_loopg [5] d.size (fun gh s5 wr => ∃ k q : Nat, 1 ≤ k ∧ k ≤ d.size ∧ d.size - k ≤ gh ∧ s5 = .int .i64 k ∧ wr = w.drewN q ∧ AllKeep El.l d k)
    case atStart => exact ⟨1, 0, Nat.le_refl _, by omega, by omega, rfl, rfl, AllKeep.one (by omega)⟩
    case round =>
      obtain ⟨k, q, hk1, hk, hgh, rfl, rfl, hall⟩ := hrel
      by_cases hlt : k < d.size
      · obtain ⟨c1, f1⟩ := HH.out k hlt
        obtain ⟨c0, f0⟩ := HH.out (k - 1) (by omega)
        rw [Nat.zero_add] at c1 c0 f1 f0
        have A := aM hall
        clear hall
        generalize hx : d[k]! = x at c1
        generalize hy : d[k - 1]! = y at c0
        have B : Aside0 (d[k]! = x ∧ d[k - 1]! = y) := ⟨⟨hx, hy⟩⟩
        clear hx hy
        by_cases hdup : x.l = y.l
        · have HD := aM hdup
          have i1 : IntKind.i64.wrap ((k : Int) - 1) = (k : Int) - 1 := IntWalk.i64_in _ (by omega)
          have i2 : (1 : Int) ≤ (k : Int) := by omega
          have i3 : ((k : Int) - 1).toNat = k - 1 := by omega
          have i4 : (k : Int) - 1 < (d.size : Int) := by omega
          have i5 : (0 : Int) ≤ (k : Int) - 1 := by omega
          go_wp2_with fail
          go_quiet ((exact quietAt (v := .bool true) ((HE.out _ d ((SW.start HH.out).drewN (q + _)) x y).mono fun _ _ hh => ⟨by rw [hh.1, decide_eq_true HD.out], hh.2⟩)))
          go_wp2
          clear c0 c1 f0 f1 i1 i2 i3 i4 i5
          go_loopg [5, 7] d.size (fun gh s5 s7 wr => ∃ (kk k2 : Nat) (dk : Array (El W0 ok)), s5 = .int .i64 kk ∧ s7 = .int .i64 k2 ∧ 1 ≤ k2 ∧ k + k2 ≤ d.size ∧ d.size - (k + k2) ≤ gh ∧ Aside0 (SW El.v w b 0 dk wr) ∧ Aside0 (CompIv El.l d (k + k2) kk dk))
          case atStart => exact ⟨k, 1, d, rfl, rfl, Nat.le_refl _, by omega, by omega, ⟨(SW.start HH.out).drewN _⟩, ⟨CompIv.start A.out (by omega) hlt (by rw [B.out.1, B.out.2]; exact HD.out)⟩⟩
          case round =>
            obtain ⟨kk, k2, dk, rfl, rfl, h1, hle, hg2, W2, I2⟩ := hrel
            have hkk := I2.out.lt
            have hds := I2.out.size
            have hHk : Holds El.v wr b 0 dk := W2.out.holds HL.out HH.out hds
            by_cases hlt2 : k + k2 < d.size
            · obtain ⟨cm, _⟩ := hHk (k + k2) (by omega)
              obtain ⟨cp, _⟩ := hHk (k + k2 - 1) (by omega)
              obtain ⟨ck, fk⟩ := hHk kk (by omega)
              rw [I2.out.high (k + k2) (by omega), Nat.zero_add] at cm
              rw [I2.out.high (k + k2 - 1) (by omega), Nat.zero_add, show k + k2 - 1 = k + (k2 - 1) by omega] at cp
              rw [Nat.zero_add] at ck fk
              clear hHk
              generalize hu : d[k + k2]! = u at cm
              generalize hv : d[k + (k2 - 1)]! = v at cp
              generalize dk[kk]! = old at ck
              have hv' : d[k + k2 - 1]! = v := by rw [show k + k2 - 1 = k + (k2 - 1) by omega]; exact hv
              have C : Aside0 (d[k + k2]! = u ∧ d[k + k2 - 1]! = v) := ⟨⟨hu, hv'⟩⟩
              clear hu hv hv'
              have i1 : IntKind.i64.wrap ((k2 : Int) - 1) = (k2 : Int) - 1 := IntWalk.i64_in _ (by omega)
              have i2 : (1 : Int) ≤ (k2 : Int) := by omega
              have i3 : ((k2 : Int) - 1).toNat = k2 - 1 := by omega
              have i4 : (k2 : Int) - 1 < ((d.size - k : Nat) : Int) := by omega
              have i5 : (0 : Int) ≤ (k2 : Int) - 1 := by omega
              have i6 : (k2 : Int) < ((d.size - k : Nat) : Int) := by omega
              by_cases huv : u.l = v.l
              · have HU := aM huv
                clear huv
                go_wp2_with fail
                go_quiet ((exact Calls.quiet_of (v := .bool true) ((HE.out _ dk (W2.out.drewN _) u v).mono fun _ _ hh => ⟨by rw [hh.1, decide_eq_true HU.out], hh.2⟩)))
                go_wp2
                go_roundg (d.size - (k + (k2 + 1)))
                case measure => omega
                case rel => exact ⟨kk, k2 + 1, dk, rfl, by go_num, by omega, by omega, Nat.le_refl _, ⟨W2.out.drewN _⟩, ⟨I2.out.skip hlt2 (by rw [C.out.1, C.out.2]; exact HU.out)⟩⟩
              · have HU := aM huv
                clear huv
                go_wp2_with fail
                go_quiet ((exact Calls.quiet_of (v := .bool false) ((HE.out _ dk (W2.out.drewN _) u v).mono fun _ _ hh => ⟨by rw [hh.1, decide_eq_false HU.out], hh.2⟩)))
                go_wp2
                go_roundg (d.size - (k + (k2 + 1)))
                case measure => omega
                case rel => exact ⟨kk + 1, k2 + 1, dk.setIfInBounds kk u, by go_num, by go_num, by omega, by omega, Nat.le_refl _, ⟨by have := SW_set (W2.out.drewN nq) HL.out kk (by omega) u; rwa [Nat.zero_add] at this⟩, ⟨by have := I2.out.keep hlt2 (by rw [C.out.1, C.out.2]; exact HU.out); rwa [C.out.1] at this⟩⟩
            · have hend : k + k2 = d.size := by omega
              have hcl : ∀ ty, (Builtin.clear_ #[22] ty #[.slice (some ⟨b, kk, none⟩) (d.size - kk) (cap - kk)]).run Try.prog wr = .ok (.tuple #[]) (wr.setCells b kk (List.replicate (d.size - kk) (default : El W0 ok).v)) :=
                fun ty => Lib.run_clear_slice wr _ _ ty _ Try.underlying22 Try.zeroValue36 rfl rfl b kk _ _ (by omega) (fun j hj => by have := (hHk (kk + j) (by omega)).1; rw [Nat.zero_add] at this; rw [this]; rfl) (fun j hj => by have := (hHk (kk + j) (by omega)).2; rw [Nat.zero_add] at this; exact this)
              clear hHk
              have i1 : ¬ (k2 : Int) < ((d.size - k : Nat) : Int) := by omega
              have i2 : kk < cap := by omega
              go_wp2
              go_ret
              obtain ⟨dk', hs', ht', n', os', hw'⟩ := SW_clear W2.out HL.out kk (List.replicate (d.size - kk) default) (by rw [List.length_replicate]; omega)
              rw [Nat.zero_add, List.map_replicate] at hw'
              have hI := I2.out
              rw [hend] at hI
              refine ⟨kk, rfl, dk', by omega, by omega, ?_, ?_, n', os', hw'⟩
              · (try rw [← List.map_take]); rw [ht', hI.low, List.take_of_length_le (by simp)]
              · rw [ht']; have := hI.sub; rwa [List.take_of_length_le (l := d.toList) (by simp)] at this
        · have HD := aM hdup
          clear hdup
          have i1 : IntKind.i64.wrap ((k : Int) - 1) = (k : Int) - 1 := IntWalk.i64_in _ (by omega)
          have i2 : (1 : Int) ≤ (k : Int) := by omega
          have i3 : ((k : Int) - 1).toNat = k - 1 := by omega
          have i4 : (k : Int) - 1 < (d.size : Int) := by omega
          have i5 : (0 : Int) ≤ (k : Int) - 1 := by omega
          go_wp2_with fail
          go_quiet ((exact quietAt (v := .bool false) ((HE.out _ d ((SW.start HH.out).drewN (q + _)) x y).mono fun _ _ hh => ⟨by rw [hh.1, decide_eq_false HD.out], hh.2⟩)))
          go_wp2
          go_roundg (d.size - (k + 1))
          case measure => omega
          case rel => exact ⟨k + 1, q + nq, by omega, by omega, Nat.le_refl _, by go_num, rfl, A.out.step (by omega) hlt (by rw [B.out.1, B.out.2]; exact HD.out)⟩
      · obtain rfl : k = d.size := by omega
        have A := aM hall
        clear hall
        go_wp2
        go_ret
        obtain ⟨n', os', hw'⟩ := (SW.start HH.out).drewN q
        refine ⟨d.size, d, n', os', rfl, Nat.le_refl _, rfl, ?_, by rw [List.take_of_length_le (by simp)]; exact List.Sublist.refl _, hw'⟩
        have := A.out.2
        rw [List.take_of_length_le (by rw [HK.out]; omega)] at this
        rw [List.take_of_length_le (by simp), this]
theorem impl_Cell_65__impl_equalShapes.raw {W0 w : World} {ok : Nat → Prop} {base b cap : Nat} (d : Array (El W0 ok)) (hA : At w base b cap d) (hS : Same W0 w ok) (hg : ¬ ok b) (h0 : 0 < d.size) (hsz : d.size < 4611686018427387904) :
    Calls Try.prog 65 #[.slice (some ⟨b, 0, none⟩) d.size cap, .func (.func 66) #[] #[]] w fun e w' => ∃ (q : Nat) (dk : Array (El W0 ok)) (n : Nat) (os : Array Obj), e = .returned (.slice (some ⟨b, 0, none⟩) q cap) ∧ q ≤ dk.size ∧ dk.size = d.size ∧ (dk.toList.take q).map El.l = compF (d.toList.map El.l) ∧ (dk.toList.take q).Sublist d.toList ∧ w' = sortWorld El.v w b 0 n dk os :=
  impl_Cell_65__impl_equalShapes.rawE d hA hS hg h0 hsz fun W dk hW x y => by
    obtain ⟨n, os, rfl⟩ := hW
    have hgw := sortW1_grown El.v w b n dk os
    obtain ⟨A0, c0, e0, hc0, hC0⟩ := x.now (hS.grown hgw hg)
    obtain ⟨A1, c1, e1, hc1, hC1⟩ := y.now (hS.grown hgw hg)
    obtain ⟨k, hk⟩ := equal_rounds x.l y.l hC0.2.1
    rw [e0, e1]
    exact (impl_equalShapes.calls k A0 c0 x.l A1 c1 y.l _ _ hC0 hc0 hC1 hc1 hk).mono fun _ _ hh => ⟨hh.1, hh.2.out⟩
end Go.Proofs.Ytibbjiehblpmfaa.F
end
section
namespace Go.Proofs.Ytibbjiehblpmfaa.F
open Go.RowKit Go.Proofs.YtibbjiehblpmfaaW.PrintWords Go.Proofs.YtibbjiehblpmfaaW.PrintLast Go.Proofs.YtibbjiehblpmfaaW.PrintMore
attribute [local go_sem] max2_int min2_int max_two min_two max_three min_three max_four min_four
set_option linter.unusedVariables false
set_option linter.unusedSimpArgs false
attribute [local go_sem high] eqA43
def own {α : Type} (b e : Nat) (d : Kd α) : Kd (List α) where
  sz := 1
  E := e :: d.E
  K := fun w xs cs => ∃ v, cs = [v] ∧ d.R e w b (fun _ => True) v xs
  M := fun _ _ _ _ _ => False
  K_len := by
    rintro w x cs ⟨v, rfl, _⟩
    rfl
  K_one := by
    rintro w x cs ⟨v, rfl, h⟩ u hu
    rw [List.mem_singleton.1 hu]
    exact (Kd.R_val h).2
  K_below := by
    rintro w w1 x cs hb ⟨v, rfl, h⟩
    exact ⟨v, rfl, Kd.R_mono (Kd.R_move (Kd.R_bound h) (fun k hk => hb.block k hk.2.2.1)) (fun _ _ => trivial)⟩
  K_of_M := fun h => h.elim
  M_mono := fun _ h => h
  M_bound := fun h => h
  M_move := fun _ h => h
  M_lower := fun _ h => h
section
variable {α : Type} {d : Kd α} {b e t base : Nat} {w W : World} {ok : Nat → Prop} {v : Value} {xs : List α} {c : List Value}
theorem KO_slice {x : List α} (h : (own b e d).K W x c) : (Kd.slice e d).K W x c := by
  obtain ⟨v, rfl, h⟩ := h
  obtain ⟨A, cc, rfl, h1, h2⟩ := Kd.R_reads h
  exact ⟨A, cc, rfl, h1, h2⟩
theorem FKO_slice {x : List α} (h : Kd.FK (own b e d) W ok x c) : Kd.FK (Kd.slice e d) W ok x c := Foot.imp h (fun _ h => KO_slice h)
theorem FO_slice {A : Option Addr} {n : Nat} {l : List (List α)} (h : Kd.F (own b e d) W ok A n l) : Kd.F (Kd.slice e d) W ok A n l := Kd.F_imp h (fun _ h2 => Kd.C_imp (d := own b e d) (d' := Kd.slice e d) rfl (fun _ _ _ h3 => KO_slice h3) h2)
theorem VO_slice {l : List (List α)} (h : Kd.V (own b e d) t W base ok v l) : Kd.V (Kd.slice e d) t W base ok v l := by
  obtain ⟨A, c, rfl⟩ := Kd.V_slice h
  obtain ⟨hn, hc, hf⟩ := Kd.V_at h
  exact Kd.V_mk hc (FO_slice hf)
theorem FKO_form (hz : 0 < d.sz) (h : Kd.FK (own b e d) W ok xs c) (z : α) (hp : 0 < xs.length) : ∃ g cap, c = [.slice (some ⟨g, 0, none⟩) xs.length cap] ∧ b ≤ g ∧ ok g ∧ d.R e W b (fun _ => True) (.slice (some ⟨g, 0, none⟩) xs.length cap) xs := by
  obtain ⟨v, rfl, hR⟩ := Kd.FK_now h
  obtain ⟨g, cap, rfl, h1, h2, _⟩ := Kd.R_form hR hp
  refine ⟨g, cap, rfl, h1, ?_, hR⟩
  obtain ⟨A, cc, he, _, hF⟩ := Kd.FK_slice_open (FKO_slice h)
  injection he with he _
  injection he with he _ _
  obtain ⟨ad, _, hA, _, _, _, h7⟩ := Kd.F_get hF z 0 (by omega) (by omega)
  rw [hA] at he
  injection he with he
  subst he
  exact h7 hz
theorem R_same {base1 base2 g cap1 cap2 : Nat} {ok1 ok2 : Nat → Prop} {x y : List α} (hK : ∀ (w : World) (p q : α) (c : List Value), d.K w p c → d.K w q c → p = q) (hl : x.length = y.length) (h1 : d.R e W base1 ok1 (.slice (some ⟨g, 0, none⟩) x.length cap1) x) (h2 : d.R e W base2 ok2 (.slice (some ⟨g, 0, none⟩) y.length cap2) y) : x = y := by
  obtain ⟨_, i1, ⟨a1, a2⟩, r1⟩ := h1
  obtain ⟨_, i2, ⟨b1, b2⟩, r2⟩ := h2
  rcases a2 with ⟨a2, _⟩ | ⟨g1, k1, c1, e1, _, p1, _, _, _, q1⟩
  · cases a2
  rcases b2 with ⟨b2, _⟩ | ⟨g2, k2, c2, e2, _, p2, _, _, _, q2⟩
  · cases b2
  injection e1 with e1 _ _
  injection e1 with e1
  injection e1 with e1
  injection e2 with e2 _ _
  injection e2 with e2
  injection e2 with e2
  subst e1 e2
  rw [p1] at p2
  injection p2 with p2
  injection p2 with p2
  subst p2
  have hi : i1 = i2 := by rw [← q1, ← q2, hl]
  subst hi
  apply List.ext_getElem hl
  intro j hj hj2
  exact hK W _ _ _ (d.K_of_M (r1.2 j _ (List.getElem?_eq_getElem hj))) (d.K_of_M (r2.2 j _ (List.getElem?_eq_getElem hj2)))
theorem S_of_N {n : Nat} {l : List (List α)} (hz : 0 < d.sz) (hE : d.E = []) (z : α) (hK : ∀ (w : World) (p q : α) (c : List Value), d.K w p c → d.K w q c → p = q) (h : Kd.N (own b e d) t W base ok v l) (hb : base ≤ b) (hn : l.Nodup) (hl : ∀ x ∈ l, x.length = n) (h0 : 0 < n) : Kd.S (Kd.slice e d) t W base ok v l := by
  classical
  obtain ⟨g0, rows, hrl, hR, hf⟩ := h
  obtain ⟨h1, inner, ho, hr⟩ := hR
  have hform : ∀ j (hj : j < l.length), ∃ g cap, rows[j]'(by omega) = [.slice (some ⟨g, 0, none⟩) n cap] ∧ (ok g ∧ some g ≠ v.ownBlock) ∧ d.R e W b (fun _ => True) (.slice (some ⟨g, 0, none⟩) n cap) l[j] := fun j hj => by
    have hlj := hl _ (List.getElem_mem hj)
    obtain ⟨g, cap, e1, _, e3, e4⟩ := FKO_form hz (hf j l[j] (rows[j]'(by omega)) (List.getElem?_eq_getElem hj) (List.getElem?_eq_getElem (by omega))) z (by omega)
    rw [hlj] at e1 e4
    exact ⟨g, cap, e1, e3, e4⟩
  have hchunk : ∀ j (hj : j < l.length), (inner.drop (j * 1)).take 1 = rows[j]'(by omega) := fun j hj => (hr.2 j _ (List.getElem?_eq_getElem (by omega))).1
  let f : Nat → Nat := fun k => rows.findIdx (fun c => decide (∃ cap, c = [Value.slice (some ⟨k, 0, none⟩) n cap]))
  have hfi : ∀ j (hj : j < l.length) g cap, rows[j]'(by omega) = [.slice (some ⟨g, 0, none⟩) n cap] → f g = j := fun j hj g cap he => by
    have hj' : j < rows.length := by omega
    refine (List.findIdx_eq hj').2 ⟨decide_eq_true ⟨cap, he⟩, fun i hi => decide_eq_false ?_⟩
    rintro ⟨cap2, he2⟩
    obtain ⟨g1, c1, e1, _, R1⟩ := hform i (by omega)
    obtain ⟨g2, c2, e2, _, R2⟩ := hform j hj
    rw [he2] at e1
    rw [he] at e2
    injection e1 with e1 _
    injection e1 with e1 _ e1c
    injection e1 with e1
    injection e1 with e1
    injection e2 with e2 _
    injection e2 with e2 _ e2c
    injection e2 with e2
    injection e2 with e2
    subst e1 e2
    have li := hl _ (List.getElem_mem (show i < l.length by omega))
    have lj := hl _ (List.getElem_mem hj)
    rw [← li] at R1
    rw [← lj] at R2
    have := R_same hK (li.trans lj.symm) R1 R2
    have := (List.getElem_inj hn).1 this
    omega
  refine ⟨f, g0, inner, ?_, ?_⟩
  · rw [List.length_zipIdx, ← hrl]; exact ho
  · refine ⟨by rw [List.length_zipIdx, ← hrl]; exact hr.1, fun j p hj => ?_⟩
    rw [List.getElem?_zipIdx, Nat.zero_add, Option.map_eq_some_iff] at hj
    obtain ⟨x, hx, rfl⟩ := hj
    obtain ⟨hj, hx⟩ := List.getElem?_eq_some_iff.1 hx
    subst hx
    obtain ⟨g, cap, e1, hok, hRr⟩ := hform j hj
    have hlj := hl _ (List.getElem_mem hj)
    show ∃ v', (inner.drop (j * 1)).take 1 = [v'] ∧ d.R e W base _ v' l[j]
    rw [hchunk j hj, e1]
    refine ⟨_, rfl, Kd.R_mono (Kd.R_lower (Kd.R_tight hE hRr) hb) (fun k hk => ?_)⟩
    obtain rfl : k = g := by simpa [Value.ownBlock] using hk
    exact ⟨hok, hfi j hj k cap e1⟩
theorem FKO_low {b' : Nat} {x : List α} (h : Kd.FK (own b e d) W ok x c) (hb : b' ≤ b) : Kd.FK (own b' e d) W ok x c := Foot.imp h (fun _ ⟨v, h1, h2⟩ => ⟨v, h1, Kd.R_lower h2 hb⟩)
theorem FO_low {b' : Nat} {A : Option Addr} {n : Nat} {l : List (List α)} (h : Kd.F (own b e d) W ok A n l) (hb : b' ≤ b) : Kd.F (own b' e d) W ok A n l := Kd.F_imp h (fun _ h2 => Kd.C_imp (d := own b e d) (d' := own b' e d) rfl (fun _ _ _ ⟨v, h1, h3⟩ => ⟨v, h1, Kd.R_lower h3 hb⟩) h2)
theorem VO_low {b' : Nat} {l : List (List α)} (h : Kd.V (own b e d) t W base ok v l) (hb : b' ≤ b) : Kd.V (own b' e d) t W base ok v l := by
  obtain ⟨A, c, rfl⟩ := Kd.V_slice h
  obtain ⟨hn, hc, hf⟩ := Kd.V_at h
  exact Kd.V_mk hc (FO_low hf hb)
theorem NO_low {b' : Nat} {l : List (List α)} (h : Kd.N (own b e d) t W base ok v l) (hb : b' ≤ b) : Kd.N (own b' e d) t W base ok v l := by
  obtain ⟨h0, rows, hl, hR, hf⟩ := h
  exact ⟨h0, rows, hl, hR, fun j x c hx hc => FKO_low (hf j x c hx hc) hb⟩
theorem FKO_R {x : List α} (hE : d.E = []) (h : d.R e W base ok v x) (hb : b ≤ base) : Kd.FK (own b e d) W ok x [v] := fun W' hW =>
  ⟨v, rfl, Kd.R_mono (Kd.R_lower (Kd.R_move (Kd.R_bound h) (fun k hk => hW k hk.1 hk.2.2.1)) hb) (fun _ _ => trivial)⟩
end
def OV {α : Type} (b e : Nat) (d : Kd α) (W : World) (ok : Nat → Prop) (v : Value) (xs : List α) : Prop := Kd.FK (own b e d) W ok xs [v]
section
variable {α : Type} {d : Kd α} {b e n : Nat} {w1 W : World} {ok ok' : Nat → Prop} {u v v1 : Value} {xs : List α}
theorem OV_mono (h : OV b e d W ok v xs) (hok : ∀ k, ok k → ok' k) : OV b e d W ok' v xs := Foot.mono h hok
theorem OV_below (h : OV b e d W ok v xs) (hb : Below W.heap.size W w1) : OV b e d w1 ok v xs := Foot.step h (fun k _ hk => hb.block k hk)
theorem OV_alloc (h : OV b e d W ok v xs) (o : Obj) : OV b e d (W.alloc o) ok v xs := OV_below h (below_alloc (Below.refl _ _) o)
theorem OV_drewN (h : OV b e d W ok v xs) (m : Nat) : OV b e d (W.drewN m) ok v xs := OV_below h (pw_below_drewN (Below.refl _ _) m)
theorem OV_drew (h : OV b e d W ok v xs) : OV b e d W.drew ok v xs := OV_below h (below_drew (Below.refl _ _))
theorem OV_elder' (h : OV b e d W ok v xs) (hbase : ∀ k, u.ownBlock = some k → W.heap.size ≤ k) (hb : Below W.heap.size W w1) : OV b e d w1 (fun k => ok k ∧ some k ≠ u.ownBlock) v xs :=
  Foot.mono (Foot.old h hb) (fun k hk => ⟨hk.1, fun he => by have := hbase k he.symm; have := hk.2; omega⟩)
theorem OV_after (h : OV b e d W (fun k => ok k ∧ some k ≠ u.ownBlock) v xs) (hg : W.grownBy w1 u.ownBlock) (hat : v1.ownBlock = u.ownBlock ∨ ∃ b, v1.ownBlock = some b ∧ W.heap.size ≤ b) : OV b e d w1 (fun k => ok k ∧ some k ≠ v1.ownBlock) v xs := by
  refine Foot.mono (Foot.step (Foot.bound h) (fun k hk hlt => hg.block k hlt hk.1.2)) (fun k hk => ⟨hk.1.1, ?_⟩)
  rcases hat with hat | ⟨b, hb, hle⟩
  · rw [hat]; exact hk.1.2
  · rw [hb]
    intro he
    injection he with he
    have := hk.2
    omega
end
def apartB (l : List (List S43)) : Bool := decide l.Nodup && l.all fun x => decide (x.length = (l.headD []).length) && decide (0 < x.length)
theorem k_one_ (w : World) (p q : S43) (c : List Value) (h1 : (k43).K w p c) (h2 : (k43).K w q c) : p = q := by
  have e1 := k43_open h1
  have e2 := k43_open h2
  subst e1
  cases p; cases q
  simpa using e2
theorem S_of_NB {b t base : Nat} {W : World} {ok : Nat → Prop} {v : Value} {l : List (List S43)} (h : Kd.N (own b 43 k43) t W base ok v l) (hb : b ≤ base) (hB : apartB l = true) : Kd.S (Kd.slice 43 k43) t W b ok v l := by
  unfold apartB at hB
  rw [Bool.and_eq_true, List.all_eq_true] at hB
  obtain ⟨h1, h2⟩ := hB
  rcases Nat.eq_zero_or_pos (l.headD []).length with h0 | h0
  · have hl : l = [] := by
      cases l with
      | nil => rfl
      | cons a r =>
        have := h2 a (by simp)
        simp only [Bool.and_eq_true, decide_eq_true_eq, List.headD_cons] at this h0
        omega
    subst hl
    exact S_of_N (n := 1) (by decide) rfl ⟨0, 0⟩ k_one_ (Kd.N_lower h hb) (Nat.le_refl _) (by simp) (by simp) (by decide)
  · exact S_of_N (n := (l.headD []).length) (by decide) rfl ⟨0, 0⟩ k_one_ (Kd.N_lower h hb) (Nat.le_refl _) (of_decide_eq_true h1) (fun x hx => by
      have := h2 x hx
      simp only [Bool.and_eq_true, decide_eq_true_eq] at this
      exact this.1) h0
section
variable {w W : World} {ok : Nat → Prop} {base g cap n b : Nat} {xs : List (List S43)}
theorem N_openO (h : Kd.N (own b 43 k43) 36 w base ok (.slice (some ⟨g, 0, none⟩) n cap) xs) : ok g ∧ n = xs.length ∧ ∃ d : Array (El w (inn ok g)), d.toList.map El.l = xs ∧ At w base g cap d ∧ ∀ x ∈ d.toList, Kd.FK (own b 43 k43) w (inn ok g) x.l [x.v] := by
  obtain ⟨h0, rows, hl, hR, hf⟩ := h
  obtain ⟨h1, inner, ⟨h2, h3⟩, h4, h5⟩ := hR
  rcases h3 with ⟨h3, _⟩ | ⟨g', cap', cur, h3, h6, h7, h8, h9, h10, h11⟩
  · cases h3
  injection h3 with h3 h13 h12
  injection h3 with h3
  injection h3 with h3
  subst h3 h12
  have hs1 : (Kd.raw (own b 43 k43).sz).sz = 1 := rfl
  rw [hs1, Nat.mul_one] at h2 h4
  rw [hs1, Nat.mul_one] at h11
  rw [hs1, Nat.mul_one] at h10
  rw [hl] at h13 h2 h4 h8 h11
  refine ⟨h0 g rfl, h13, ?_⟩
  have hrow : ∀ j (hj : j < xs.length), rows[j]'(by omega) = [inner[j]'(by omega)] := fun j hj => by
    obtain ⟨e, _⟩ := h5 j (rows[j]'(by omega)) (List.getElem?_eq_getElem (by omega))
    rw [← e, hs1, Nat.mul_one, List.drop_eq_getElem_cons (by omega)]
    rfl
  have hel : ∀ j : Fin xs.length, Kd.FK (own b 43 k43) w (inn ok g) xs[j.1] [inner[j.1]'(by omega)] := fun j => by
    have h := hf j.1 xs[j.1] (rows[j.1]'(by omega)) (List.getElem?_eq_getElem j.2) (List.getElem?_eq_getElem (by omega))
    rw [hrow j.1 j.2] at h
    exact Kd.FK_mono h (fun k hk => inn_of hk)
  refine ⟨Array.ofFn fun j : Fin xs.length => El.mk (inner[j.1]'(by omega)) xs[j.1] j.1 (FKO_slice (hel j)), ?_, ⟨h6, h9, by rw [Array.size_ofFn]; exact h8, cur, h7, h10, ?_⟩, fun x hx => ?_⟩
  · apply List.ext_getElem
    · simp
    · intro i hi hi2
      simp
  · rw [Array.size_ofFn, h11]
    apply List.ext_getElem
    · simp; omega
    · intro i hi hi2
      simp
  · obtain ⟨i, hi, rfl⟩ := List.getElem_of_mem hx
    have hi' : i < xs.length := by simpa using hi
    have := hel ⟨i, hi'⟩
    simpa using this
theorem N_closeO {d0 : World} {d : Array (El d0 (inn ok g))} (hok : ok g) (h : At w base g cap d) (hs : Same d0 w (inn ok g)) (hO : ∀ x ∈ d.toList, Kd.FK (own b 43 k43) d0 (inn ok g) x.l [x.v]) : Kd.N (own b 43 k43) 36 w base ok (.slice (some ⟨g, 0, none⟩) d.size cap) (d.toList.map El.l) := by
  refine ⟨fun k hk => ?_, d.toList.map fun x : El d0 (inn ok g) => [x.v], by simp, h.raw, fun j x c hx hc => ?_⟩
  · simp [Value.ownBlock] at hk
    exact hk ▸ hok
  · rw [List.getElem?_map, Option.map_eq_some_iff] at hx hc
    obtain ⟨y, hy, rfl⟩ := hx
    obtain ⟨z, hz, rfl⟩ := hc
    rw [hy] at hz
    obtain rfl := Option.some.inj hz
    exact Kd.FK_mono (Kd.FK_step (hO y (List.mem_of_getElem? hy)) hs) (fun k hk => inn_to hk)
end
open Go.Sort
def impl_tidyShapes.f (l0 : List (List S43)) : Option (List (List S43)) := if 0 < l0.length ∧ l0.length < 4611686018427387904 then some (compF (sortS l0)) else none
theorem szs_eq {w : World} {ok : Nat → Prop} {d d1 : Array (El w ok)} (h : d1.toList.Perm d.toList) : d.size = d1.size := by
  have := h.length_eq
  rw [Array.length_toList, Array.length_toList] at this
  exact this.symm
set_option maxHeartbeats 4000000 in
theorem impl_tidyShapes.raw {w : World} {ok : Nat → Prop} {base g cap : Nat} (d : Array (El w ok)) (hA : At w base g cap d) (hg : ¬ ok g) (h0 : 0 < d.size) (hsz : d.size < 4611686018427387904) :
    Calls Try.prog 50 #[.slice (some ⟨g, 0, none⟩) d.size cap] w fun e w' => ∃ dk : Array (El w ok), e = .returned (.slice (some ⟨g, 0, none⟩) dk.size cap) ∧ At w' base g cap dk ∧ Same w w' ok ∧ dk.toList.map El.l = compF (sortS (d.toList.map El.l)) ∧ ((∀ x ∈ dk.toList, x ∈ d.toList) ∧ ((d.toList.map El.j).Nodup → (dk.toList.map El.j).Nodup)) ∧ w.grownBy w' (some g) := by
  have HA := aM hA
  have HG := aM hg
  have H0 := aM h0
  have HZ := aM hsz
  clear hA hg h0 hsz
  go_enter Try.func50, Try.ntmps50
  go_wp2_with (first
    | (go_at_call 64; refine (impl_Cell_64__impl_compareShapes.raw d HA.out (Same.refl _ _) HG.out HZ.out).mono ?_; rintro e w1 ⟨rfl, d1, n1, os1, hp, hr, hw⟩; have HP := aM hp; have HR := aM hr; have HW := aM hw; have HS := aM (szs_eq hp); clear hp hr hw)
    | (go_at_call 65; have hC := impl_Cell_65__impl_equalShapes.raw (w := w1) (base := base) (cap := cap) d1 (by rw [HW.out]; exact HA.out.sorted HS.out.symm) (by rw [HW.out]; exact (Same.refl _ _).grown (sortW1_grown _ _ _ _ _ _) HG.out) HG.out (by rw [← HS.out]; exact H0.out) (by rw [← HS.out]; exact HZ.out); rw [← HS.out] at hC; refine hC.mono ?_; clear hC; rintro e w2 ⟨q, dk, n2, os2, rfl, hq, hs2, hl, hsub, hw2⟩; have H2 := aM (And.intro hq (And.intro hs2 (And.intro hl (And.intro hsub hw2)))); clear hq hs2 hl hsub hw2))
  go_ret
  obtain ⟨hq, hs2, hl, hsub, hw2⟩ := H2.out
  have g1 := sortW1_grown El.v w g n1 d1 os1
  rw [← HW.out] at g1
  have g2 := sortW1_grown El.v w1 g n2 dk os2
  rw [← hw2] at g2
  have hs1 := HS.out
  have A1 : At w1 base g cap d1 := by rw [HW.out]; exact HA.out.sorted hs1.symm
  have A2 : At w2 base g cap dk := by rw [hw2]; exact A1.sorted (hs2.trans hs1)
  have hz : (dk.toList.take q).toArray.size = q := by simp; omega
  refine ⟨(dk.toList.take q).toArray, by rw [hz]; rfl, A2.cut q hq, ((Same.refl _ _).grown g1 HG.out).grown g2 HG.out, by rw [← HR.out]; exact hl, ⟨fun x hx => HP.out.mem_iff.1 (hsub.mem hx), fun hn => ?_⟩, g1.trans g2⟩
  exact ((hsub.map El.j).nodup (((HP.out.map El.j).nodup_iff).2 hn))
theorem impl_tidyShapes.callsO (b_ : Nat) (P0_ : Nat → Prop) (u9000_ : Value) (l0 : List (List S43)) (r : List (List S43)) (w0 w : World) (hB : Below w0.heap.size w0 w) (ho0 : Kd.N (own b_ 43 k43) 36 w w0.heap.size P0_ u9000_ l0) (h : impl_tidyShapes.f l0 = some r) :
    Calls Try.prog 50 #[u9000_] w fun e w' => ∃ v0_ : Value, e = .returned (v0_) ∧ Kd.N (own b_ 43 k43) 36 w' w0.heap.size (fun k_ => (P0_ k_ ∨ w.heap.size ≤ k_)) v0_ r ∧ Below w0.heap.size w0 w' ∧ Kept w w' (fun k_ => some k_ = u9000_.ownBlock) ∧ v0_.ownBlock = u9000_.ownBlock := by
  unfold impl_tidyShapes.f at h
  by_cases hl : 0 < l0.length ∧ l0.length < 4611686018427387904
  · rw [if_pos hl] at h
    obtain rfl := Option.some.inj h
    obtain ⟨g, cap, rfl, _⟩ := Kd.N_form ho0 hl.1
    obtain ⟨hok, hn, d, hd, hA, hO⟩ := N_openO ho0
    have hdn : d.size = l0.length := by rw [← hd]; simp
    have hcon := impl_tidyShapes.raw d hA (fun h_ => h_.2 rfl) (by omega) (by omega)
    rw [hdn] at hcon
    refine hcon.mono ?_
    rintro e w' ⟨dk, rfl, hA2, hS2, hl2, ⟨hmem, hnod⟩, hgw⟩
    rw [hd] at hl2
    refine ⟨_, rfl, ?_, pw_below_grown hB (some g) hB.size hgw (fun k hk => by injection hk with hk; exact hk ▸ hA.base), ?_⟩
    · have h2 := N_closeO hok hA2 hS2 (fun x hx => hO x (hmem x hx))
      rw [hl2] at h2
      exact Kd.N_mono h2 (fun _ hk => .inl hk)
    · refine ⟨⟨hgw.size, fun i hi hn => hgw.block i hi ?_⟩, rfl⟩
      intro e
      injection e with e
      exact hn (e ▸ rfl)
  · rw [if_neg hl] at h
    exact absurd h (by simp)
def impl_corner.l0 : Nat → List (S43) → Int → Int → Int → Int → Option (Int × Int)
 | 0, _, _, _, _, _ => none
 | k + 1, x9, x10, x11, x321000, x321001 => if x11 < x10 then (if 0 ≤ x11 then (if x11 < (x9.length : Int) then (impl_corner.l0 k x9 x10 (wrap64 (x11 + 1)) (mn x321000 ((rd_T43 x9 x11).f0)) (mn x321001 ((rd_T43 x9 x11).f1))) else (none)) else (none)) else (some (x321000, x321001))
def impl_corner.f (k : Nat) (l0 : List (S43)) : Option (Int × Int) := if 0 < (l0.length : Int) then (impl_corner.l0 k l0 (l0.length : Int) 0 ((rd_T43 l0 0).f0) ((rd_T43 l0 0).f1)) else (none)
theorem impl_corner.calls (k : Nat) (A0 : Option Addr) (c0 : Nat) (l0 : List (S43)) (r1 : Int) (r2 : Int) (w : World) (hr0 : Kd.C k43 w A0 l0.length l0) (hc0 : l0.length ≤ c0) (h : impl_corner.f k l0 = some (r1, r2)) :
  Calls Try.prog 51 #[.slice A0 l0.length c0] w fun e w' => e = .returned (.agg #[.int .i64 r1, .int .i64 r2]) ∧ Below w.heap.size w w' := by
 have hu43 := Try.underlying43
 have HR0 := aM hr0
 have HC0 := aM hc0
 clear hr0 hc0
 have HB := aM (Below.refl w.heap.size w)
 have H : (if 0 < (l0.length : Int) then (impl_corner.l0 k l0 (l0.length : Int) 0 ((rd_T43 l0 0).f0) ((rd_T43 l0 0).f1)) else (none)) = some (r1, r2) := h
 clear h
 by_cases c2 : 0 < (l0.length : Int)
 rotate_left
 ·rw [if_neg c2] at H
  exact absurd H (by simp)
 rw [if_pos c2] at H
 have c2b0 : decide (0 < (l0.length : Int)) = true := decide_eq_true c2
 have c2b1 : decide (0 < l0.length) = true := decide_eq_true (by omega)
 clear c2
 have H' := aM H
 clear H
 go_enter Try.func51, Try.ntmps51
 go_wp2_with (first | ((with_reducible refine gate_dst (N := 2) rfl ?_); refine zx 2 #[.int .i64 0, .int .i64 0] 43 ?_; intro gb318 hg w3 hbox hb; have n0_ := aM (below_step zb hb); have n1_ := aM (hbox); have n2_ := aM ((ze : w.heap.size ≤ gb318)); have n3_ := aM ((ze : w.heap.size ≤ gb318)); clear HB; have HB := n0_; have BK318 := n1_; have GW318 := n2_; have GE318 := n3_; clear n0_ n1_ n2_ n3_ hb hbox hg; have p319 : 0 ≤ (0 : Int) := (by omega); have q319 : 0 < (l0.length : Int) := of_decide_eq_true za; obtain ⟨ad319, e319, hx319_0, hx319_1⟩ := at_T43 HR0.out 0 p319 q319; cases e319; have qi319 : (0 < l0.length) = True := eq_true (by omega); (try rw [show ((0 : Int)).toNat = 0 from rfl] at hx319_0); (try rw [show 0 * 2 = 0 from rfl] at hx319_0); (try rw [Addr.add_zero'] at hx319_0); (try rw [show ((0 : Int)).toNat = 0 from rfl] at hx319_1); (try rw [show 0 * 2 = 0 from rfl] at hx319_1); (try rw [Addr.add_zero'] at hx319_1); replace hx319_0 := zk HB.out hx319_0; replace hx319_1 := zk HB.out hx319_1; replace p319 := eq_true p319; replace q319 := eq_true q319) | ((with_reducible refine gate_dst (N := 3) rfl ?_); refine zx 3 #[.int .i64 0, .int .i64 0] 43 ?_; intro gb320 hg w4 hbox hb; have n0_ := aM (blk_below (g := gb318) (o := .cells #[.int .i64 0, .int .i64 0] 43 (0, 0)) (mB_ BK318.out) hb); have n1_ := aM (below_step (zs GE318.out) hb); have n2_ := aM (hbox); have n3_ := aM ((zf GE318.out : w.heap.size ≤ gb320)); have n4_ := aM ((zf GE318.out : w.heap.size ≤ gb320)); have n5_ := aM ((zl BK318.out : gb318 ≠ gb320)); have n6_ := aM ((zn BK318.out : gb320 ≠ gb318)); clear BK318 HB; have BK318 := n0_; have HB := n1_; have BK320 := n2_; have GW320 := n3_; have GE320 := n4_; have NB318_320 := n5_; have NB320_318 := n6_; clear n0_ n1_ n2_ n3_ n4_ n5_ n6_ hb hbox hg; have hnb5 := NB320_318.out; have hnc5 := NB318_320.out; have hcz6_0 : w4.cell? ⟨gb320, 0, none⟩ = some (.int .i64 0) := (blk_cell BK320.out 0).trans rfl; have hcz6_1 : w4.cell? ⟨gb320, 1, none⟩ = some (.int .i64 0) := (blk_cell BK320.out 1).trans rfl; have hfz6_0 := blk_frozen BK320.out 0; have hfz6_1 := blk_frozen BK320.out 1))
 go_loopg [11] k (fun kq v11 w' => ∃ (x11_1 : Int) (x321000_1 : Int) (x321001_1 : Int), v11 = .int .i64 x11_1 ∧ Aside0 (impl_corner.l0 kq l0 (l0.length : Int) x11_1 x321000_1 x321001_1 = some (r1, r2)) ∧ Aside0 (kq ≤ k) ∧ Aside0 (w'.heap[gb318]? = some (.cells #[.int .i64 0, .int .i64 0] 43 (0, 0))) ∧ Aside0 (w'.heap[gb320]? = some (.cells #[.int .i64 x321000_1, .int .i64 x321001_1] 43 (0, 0))) ∧ Aside0 (Below w.heap.size w w'))
 case atStart => exact ⟨(0), ((rd_T43 l0 0).f0), ((rd_T43 l0 0).f1), zr, H', ⟨Nat.le_refl _⟩, ⟨by (with_reducible repeat (first | refine blk_drewN ?_ _ | refine blk_drew ?_ | refine blk_alloc ?_ _)); refine blk_far ?_ NB318_320.out _; (with_reducible repeat (first | refine blk_drewN ?_ _ | refine blk_drew ?_ | refine blk_alloc ?_ _)); refine blk_far ?_ NB318_320.out _; (with_reducible repeat (first | refine blk_drewN ?_ _ | refine blk_drew ?_ | refine blk_alloc ?_ _)); exact BK318.out⟩, ⟨by (with_reducible repeat (first | refine blk_drewN ?_ _ | refine blk_drew ?_ | refine blk_alloc ?_ _)); refine blk_put (cs := #[.int .i64 ((rd_T43 l0 0).f0), .int .i64 0]) ?_ 1 _ rfl; (with_reducible repeat (first | refine blk_drewN ?_ _ | refine blk_drew ?_ | refine blk_alloc ?_ _)); refine blk_put (cs := #[.int .i64 0, .int .i64 0]) ?_ 0 _ rfl; (with_reducible repeat (first | refine blk_drewN ?_ _ | refine blk_drew ?_ | refine blk_alloc ?_ _)); exact BK320.out⟩, ⟨zt GE318.out GE320.out⟩⟩
 case round =>
  clear H'
  try clear c2
  try clear c2b0
  try clear c2b1
  try clear p2
  try clear p3
  try clear q3
  try clear hx3
  try clear qi3
  try clear c5
  try clear hcz6_0
  try clear hcz6_1
  try clear hfz6_0
  try clear hfz6_1
  try clear hx319_0
  try clear hx319_1
  try clear p319
  try clear q319
  obtain ⟨x11_1, x321000_1, x321001_1, rfl, HA, HK1, BK318, BK320, HB⟩ := hrel
  cases gk with
  | zero => exact absurd HA.out (by simp [impl_corner.l0])
  | succ k1 =>
   have H := HA.out
   clear HA
   simp only [impl_corner.l0] at H
   by_cases c7 : x11_1 < (l0.length : Int)
   rotate_left
   ·rw [if_neg c7] at H
    have c7b0 : decide (x11_1 < (l0.length : Int)) = false := decide_eq_false c7
    clear c7
    simp only [Option.some.injEq, Prod.mk.injEq] at H
    obtain ⟨rfl, rfl⟩ := H
    have hnb18 := NB320_318.out
    have hnc18 := NB318_320.out
    have hcz19_0 : wr.cell? ⟨gb320, 0, none⟩ = some (.int .i64 x321000_1) := (blk_cell BK320.out 0).trans rfl
    have hcz19_1 : wr.cell? ⟨gb320, 1, none⟩ = some (.int .i64 x321001_1) := (blk_cell BK320.out 1).trans rfl
    have hfz19_0 := blk_frozen BK320.out 0
    have hfz19_1 := blk_frozen BK320.out 1
    have hcz20_0 : wr.cell? ⟨gb318, 0, none⟩ = some (.int .i64 0) := (blk_cell BK318.out 0).trans rfl
    have hcz20_1 : wr.cell? ⟨gb318, 1, none⟩ = some (.int .i64 0) := (blk_cell BK318.out 1).trans rfl
    have hfz20_0 := blk_frozen BK318.out 0
    have hfz20_1 := blk_frozen BK318.out 1
    go_wp2
    refine bodyPost_ret (results_cell_row rfl _ _ gb318 43 #[.int .i64 x321000_1, .int .i64 x321001_1] (0, 0) _ rfl (by (with_reducible repeat (first | refine blk_drewN ?_ _ | refine blk_drew ?_ | refine blk_alloc ?_ _)); refine blk_put (cs := #[.int .i64 x321000_1, .int .i64 0]) ?_ 1 _ rfl; (with_reducible repeat (first | refine blk_drewN ?_ _ | refine blk_drew ?_ | refine blk_alloc ?_ _)); refine blk_put (cs := #[.int .i64 0, .int .i64 0]) ?_ 0 _ rfl; (with_reducible repeat (first | refine blk_drewN ?_ _ | refine blk_drew ?_ | refine blk_alloc ?_ _)); exact BK318.out) Try.underlying43 rfl (by kernel_rfl)) rfl ?_
    exact ⟨zw, zt GE318.out GE320.out⟩
   rw [if_pos c7] at H
   have c7b0 : decide (x11_1 < (l0.length : Int)) = true := decide_eq_true c7
   clear c7
   by_cases c8 : 0 ≤ x11_1
   rotate_left
   ·rw [if_neg c8] at H
    exact absurd H (by simp)
   rw [if_pos c8] at H
   have c8b0 : decide (0 ≤ x11_1) = true := decide_eq_true c8
   clear c8
   by_cases c9 : x11_1 < (l0.length : Int)
   rotate_left
   ·rw [if_neg c9] at H
    exact absurd H (by simp)
   rw [if_pos c9] at H
   have c9b0 : decide (x11_1 < (l0.length : Int)) = true := decide_eq_true c9
   clear c9
   obtain ⟨ji10, hji10⟩ : ∃ j_ : Int, (mn x321000_1 ((rd_T43 l0 x11_1).f0)) = j_ := ⟨_, rfl⟩
   replace H : (impl_corner.l0 k1 l0 (l0.length : Int) (wrap64 (x11_1 + 1)) ji10 (mn x321001_1 ((rd_T43 l0 x11_1).f1))) = some (r1, r2) := by first | (rw [hji10] at H; exact H) | (simp only [hji10] at H ⊢; exact H)
   have hji10_ : (if ((rd_T43 l0 x11_1).f0) < x321000_1 then ((rd_T43 l0 x11_1).f0) else x321000_1) = ji10 := hji10
   obtain ⟨ji11, hji11⟩ : ∃ j_ : Int, (mn x321001_1 ((rd_T43 l0 x11_1).f1)) = j_ := ⟨_, rfl⟩
   replace H : (impl_corner.l0 k1 l0 (l0.length : Int) (wrap64 (x11_1 + 1)) ji10 ji11) = some (r1, r2) := by first | (rw [hji11] at H; exact H) | (simp only [hji11] at H ⊢; exact H)
   have hji11_ : (if ((rd_T43 l0 x11_1).f1) < x321001_1 then ((rd_T43 l0 x11_1).f1) else x321001_1) = ji11 := hji11
   have H' := aM H
   clear H
   have p321 : 0 ≤ (x11_1 : Int) := of_decide_eq_true za
   have q321 : x11_1 < (l0.length : Int) := of_decide_eq_true za
   obtain ⟨ad321, e321, hx321_0, hx321_1⟩ := at_T43 HR0.out x11_1 p321 q321
   obtain rfl : ad319 = ad321 := (by injection e321)
   replace hx321_0 := zk HB.out hx321_0
   replace hx321_1 := zk HB.out hx321_1
   replace p321 := eq_true p321
   replace q321 := eq_true q321
   go_wp2_with (first | ((with_reducible refine gate_dst (N := 5) rfl ?_); refine zx 5 #[.int .i64 0, .int .i64 0] 43 ?_; intro gb322 hg w12 hbox hb; have n0_ := aM (blk_below (g := gb318) (o := .cells #[.int .i64 0, .int .i64 0] 43 (0, 0)) (mB_ BK318.out) hb); have n1_ := aM (blk_below (g := gb320) (o := .cells #[.int .i64 x321000_1, .int .i64 x321001_1] 43 (0, 0)) (mB_ BK320.out) hb); have n2_ := aM (below_step (zt GE318.out GE320.out) hb); have n3_ := aM (hbox); have n4_ := aM ((by rw [hg]; exact (below_size (zt GE318.out GE320.out)) : w.heap.size ≤ gb322)); have n5_ := aM ((by rw [hg]; exact (below_size (zt GE318.out GE320.out)) : w.heap.size ≤ gb322)); have n6_ := aM ((zl BK318.out : gb318 ≠ gb322)); have n7_ := aM ((zn BK318.out : gb322 ≠ gb318)); have n8_ := aM ((zl BK320.out : gb320 ≠ gb322)); have n9_ := aM ((zn BK320.out : gb322 ≠ gb320)); clear BK318 BK320 HB; have BK318 := n0_; have BK320 := n1_; have HB := n2_; have BK322 := n3_; have GW322 := n4_; have GE322 := n5_; have NB318_322 := n6_; have NB322_318 := n7_; have NB320_322 := n8_; have NB322_320 := n9_; clear n0_ n1_ n2_ n3_ n4_ n5_ n6_ n7_ n8_ n9_ hb hbox hg; have hnb13 := NB322_318.out; have hnc13 := NB318_322.out; have hnb14 := NB322_320.out; have hnc14 := NB320_322.out; have hcz15_0 : w12.cell? ⟨gb322, 0, none⟩ = some (.int .i64 0) := (blk_cell BK322.out 0).trans rfl; have hcz15_1 : w12.cell? ⟨gb322, 1, none⟩ = some (.int .i64 0) := (blk_cell BK322.out 1).trans rfl; have hfz15_0 := blk_frozen BK322.out 0; have hfz15_1 := blk_frozen BK322.out 1; have hnb16 := NB320_318.out; have hnc16 := NB318_320.out; have hcz17_0 : w12.cell? ⟨gb320, 0, none⟩ = some (.int .i64 x321000_1) := (blk_cell BK320.out 0).trans rfl; have hcz17_1 : w12.cell? ⟨gb320, 1, none⟩ = some (.int .i64 x321001_1) := (blk_cell BK320.out 1).trans rfl; have hfz17_0 := blk_frozen BK320.out 0; have hfz17_1 := blk_frozen BK320.out 1))
   go_roundg k1
   case measure => have := HK1.out; omega
   case rel => exact ⟨(wrap64 (x11_1 + 1)), (ji10), (ji11), zr, H', ⟨by have := HK1.out; omega⟩, ⟨by (with_reducible repeat (first | refine blk_drewN ?_ _ | refine blk_drew ?_ | refine blk_alloc ?_ _)); refine blk_far ?_ NB318_320.out _; (with_reducible repeat (first | refine blk_drewN ?_ _ | refine blk_drew ?_ | refine blk_alloc ?_ _)); refine blk_far ?_ NB318_320.out _; (with_reducible repeat (first | refine blk_drewN ?_ _ | refine blk_drew ?_ | refine blk_alloc ?_ _)); refine blk_far ?_ NB318_322.out _; (with_reducible repeat (first | refine blk_drewN ?_ _ | refine blk_drew ?_ | refine blk_alloc ?_ _)); refine blk_far ?_ NB318_322.out _; (with_reducible repeat (first | refine blk_drewN ?_ _ | refine blk_drew ?_ | refine blk_alloc ?_ _)); exact BK318.out⟩, ⟨by (with_reducible repeat (first | refine blk_drewN ?_ _ | refine blk_drew ?_ | refine blk_alloc ?_ _)); refine blk_put (cs := #[.int .i64 ji10, .int .i64 x321001_1]) ?_ 1 _ rfl; (with_reducible repeat (first | refine blk_drewN ?_ _ | refine blk_drew ?_ | refine blk_alloc ?_ _)); refine blk_put (cs := #[.int .i64 x321000_1, .int .i64 x321001_1]) ?_ 0 _ rfl; (with_reducible repeat (first | refine blk_drewN ?_ _ | refine blk_drew ?_ | refine blk_alloc ?_ _)); refine blk_far ?_ NB320_322.out _; (with_reducible repeat (first | refine blk_drewN ?_ _ | refine blk_drew ?_ | refine blk_alloc ?_ _)); refine blk_far ?_ NB320_322.out _; (with_reducible repeat (first | refine blk_drewN ?_ _ | refine blk_drew ?_ | refine blk_alloc ?_ _)); exact BK320.out⟩, ⟨by repeat (first | (with_reducible first | exact HB.out | apply below_alloc | apply pw_below_drewN | apply below_drew1 | refine below_set ?_ GE318.out | refine below_set ?_ GE320.out | refine below_set ?_ GE322.out) | exact HB.out)⟩⟩
def impl_moved.l0 : Nat → Int → Int → List (S43) → List (S43) → Int → Int → Option ((List (S43)))
 | 0, _, _, _, _, _, _ => none
 | k + 1, x1, x2, x7, x13, x14, x15 => if x15 < x14 then (if 0 ≤ x15 then (if x15 < (x13.length : Int) then (if x7.length < 8796093022208 then (impl_moved.l0 k x1 x2 (x7 ++ [(⟨wrap64 (((rd_T43 x13 x15).f0) + x1), wrap64 (((rd_T43 x13 x15).f1) + x2)⟩ : S43)]) x13 x14 (wrap64 (x15 + 1))) else (none)) else (none)) else (none)) else (some x7)
def impl_moved.f (k : Nat) (l0 : List (S43)) (a1 : Int) (a2 : Int) : Option ((List (S43))) := if 0 ≤ (l0.length : Int) then (if ((l0.length : Int) : Int).toNat ≤ 17592186044416 then (impl_moved.l0 k a1 a2 (([] : List (S43))) l0 (l0.length : Int) 0) else (none)) else (none)
theorem impl_moved.calls (k : Nat) (A0 : Option Addr) (c0 : Nat) (l0 : List (S43)) (a1 : Int) (a2 : Int) (r : List (S43)) (w : World) (hr0 : Kd.C k43 w A0 l0.length l0) (hc0 : l0.length ≤ c0) (h : impl_moved.f k l0 a1 a2 = some r) :
  Calls Try.prog 52 #[.slice A0 l0.length c0, .int .i64 a1, .int .i64 a2] w fun e w' => ∃ v0_ : Value, e = .returned (v0_) ∧ Kd.R k43 43 w' w.heap.size (fun _ => True) v0_ r ∧ Below w.heap.size w w' := by
 have hu43 := Try.underlying43
 have HR0 := aM hr0
 have HC0 := aM hc0
 clear hr0 hc0
 have HB := aM (Below.refl w.heap.size w)
 have H : (if 0 ≤ (l0.length : Int) then (if ((l0.length : Int) : Int).toNat ≤ 17592186044416 then (impl_moved.l0 k a1 a2 (([] : List (S43))) l0 (l0.length : Int) 0) else (none)) else (none)) = some r := h
 clear h
 by_cases c4 : 0 ≤ (l0.length : Int)
 rotate_left
 ·rw [if_neg c4] at H
  exact absurd H (by simp)
 rw [if_pos c4] at H
 have c4b0 := eq_true c4
 have c4b1 : decide (0 ≤ (l0.length : Int)) = true := decide_eq_true c4
 clear c4
 by_cases c5 : ((l0.length : Int) : Int).toNat ≤ 17592186044416
 rotate_left
 ·rw [if_neg c5] at H
  exact absurd H (by simp)
 rw [if_pos c5] at H
 have c5b0 := eq_true c5
 have c5b1 : decide (((l0.length : Int) : Int).toNat ≤ 17592186044416) = true := decide_eq_true c5
 clear c5
 obtain ⟨y323, hy323⟩ : ∃ y_ : List (S43), y_ = (([] : List (S43))) := ⟨_, rfl⟩
 replace H : (impl_moved.l0 k a1 a2 y323 l0 (l0.length : Int) 0) = some r := zy H hy323
 have Ny323 := aM hy323
 clear hy323
 have H' := aM H
 clear H
 go_enter Try.func52, Try.ntmps52
 go_wp2_with (first | ((with_reducible refine gate_dst (N := 12) rfl ?_); refine Kd.R_make0 k43 _ 43 rfl (N := 12) rfl 36 _ _ rfl (l0.length : Int) rfl rfl Try.underlying36 (.agg #[(.int .i64 0), (.int .i64 0)]) 16 info43 rfl (by decide) (by omega) z43 (ok := fun _ => True) (okp := fun _ => True) (k43_mkM _ _ _ z43 ) (fun _ hk => hk) trivial (of_decide_eq_true za) (Nat.le_trans (Nat.mul_le_mul_right _ (of_decide_eq_true za : (l0.length : Int).toNat ≤ 17592186044416)) (by omega)) (Below.refl _ _) (Nat.le_refl _) ?_; intro v324 w6 ho7 hb hg_ hnew_; clear hg_ hnew_; (first | rw [← Ny323.out] at ho7 | (simp only [Int.reduceToNat] at ho7; rw [← Ny323.out] at ho7)); have n0_ := aM (Kd.R_lower ho7 (below_size zb)); have n1_ := aM (below_step zb hb); clear HB; have HO325 := n0_; have HB := n1_; clear n0_ n1_; clear hb ho7))
 go_loopg [7, 15] k (fun kq v7 v15 w' => ∃ (x7_1 : List (S43)) (x15_1 : Int), v15 = .int .i64 x15_1 ∧ Aside0 (impl_moved.l0 kq a1 a2 x7_1 l0 (l0.length : Int) x15_1 = some r) ∧ Aside0 (kq ≤ k) ∧ Aside0 (Kd.R k43 43 w' w.heap.size (fun _ => True) v7 x7_1) ∧ Aside0 (Below w.heap.size w w'))
 case atStart => exact ⟨(y323), (0), zr, H', ⟨Nat.le_refl _⟩, ⟨mR_ HO325.out⟩, ⟨zb⟩⟩
 case round =>
  clear H'
  try clear p2
  try clear c4
  try clear c4b0
  try clear c4b1
  try clear c5
  try clear c5b0
  try clear c5b1
  obtain ⟨x7_1, x15_1, rfl, HA, HK1, HO_7, HB⟩ := hrel
  cases gk with
  | zero => exact absurd HA.out (by simp [impl_moved.l0])
  | succ k1 =>
   have H := HA.out
   clear HA
   simp only [impl_moved.l0] at H
   by_cases c8 : x15_1 < (l0.length : Int)
   rotate_left
   ·rw [if_neg c8] at H
    have c8b0 : decide (x15_1 < (l0.length : Int)) = false := decide_eq_false c8
    clear c8
    obtain rfl := Option.some.inj H
    go_wp2
    go_ret
    exact ⟨_, zw, mR_ HO_7.out, zb⟩
   rw [if_pos c8] at H
   have c8b0 : decide (x15_1 < (l0.length : Int)) = true := decide_eq_true c8
   clear c8
   by_cases c9 : 0 ≤ x15_1
   rotate_left
   ·rw [if_neg c9] at H
    exact absurd H (by simp)
   rw [if_pos c9] at H
   have c9b0 : decide (0 ≤ x15_1) = true := decide_eq_true c9
   clear c9
   by_cases c10 : x15_1 < (l0.length : Int)
   rotate_left
   ·rw [if_neg c10] at H
    exact absurd H (by simp)
   rw [if_pos c10] at H
   have c10b0 : decide (x15_1 < (l0.length : Int)) = true := decide_eq_true c10
   clear c10
   by_cases c11 : x7_1.length < 8796093022208
   rotate_left
   ·rw [if_neg c11] at H
    exact absurd H (by simp)
   rw [if_pos c11] at H
   have LMc11 := aM c11
   clear c11
   obtain ⟨y328, hy328⟩ : ∃ y_ : List (S43), y_ = (x7_1 ++ [(⟨wrap64 (((rd_T43 l0 x15_1).f0) + a1), wrap64 (((rd_T43 l0 x15_1).f1) + a2)⟩ : S43)]) := ⟨_, rfl⟩
   replace H : (impl_moved.l0 k1 a1 a2 y328 l0 (l0.length : Int) (wrap64 (x15_1 + 1))) = some r := zy H hy328
   have Ny328 := aM hy328
   clear hy328
   have H' := aM H
   clear H
   have p326 : 0 ≤ (x15_1 : Int) := of_decide_eq_true za
   have q326 : x15_1 < (l0.length : Int) := of_decide_eq_true za
   obtain ⟨ad326, e326, hx326_0, hx326_1⟩ := at_T43 HR0.out x15_1 p326 q326
   cases e326
   replace hx326_0 := zk HB.out hx326_0
   replace hx326_1 := zk HB.out hx326_1
   replace p326 := eq_true p326
   replace q326 := eq_true q326
   go_wp2_with (first | ((with_reducible refine gate_dst (N := 9) rfl ?_); refine zx 9 #[.int .i64 0, .int .i64 0] 43 ?_; intro gb327 hg w12 hbox hb; have n0_ := aM (Kd.R_below (Kd.R_elderB (mR_ HO_7.out) gb327 (Nat.le_of_eq hg.symm)) hb); have n1_ := aM (below_step zb hb); have n2_ := aM (hbox); have n3_ := aM ((ze : w.heap.size ≤ gb327)); have n4_ := aM ((ze : w.heap.size ≤ gb327)); clear HO_7 HB; have HO_7 := n0_; have HB := n1_; have BK327 := n2_; have GW327 := n3_; have GE327 := n4_; clear n0_ n1_ n2_ n3_ n4_ hb hbox hg; have hcz13_0 : w12.cell? ⟨gb327, 0, none⟩ = some (.int .i64 0) := (blk_cell BK327.out 0).trans rfl; have hcz13_1 : w12.cell? ⟨gb327, 1, none⟩ = some (.int .i64 0) := (blk_cell BK327.out 1).trans rfl; have hfz13_0 := blk_frozen BK327.out 0; have hfz13_1 := blk_frozen BK327.out 1) | ((with_reducible refine gate_builtin (b := .append) (xs := #[.tmp 19, .tmp 29]) rfl ?_); at_builtin; refine Kd.R_append k43 (w0 := w) w.heap.size rfl (.tmp 19) (.tmp 29) 36 43 (.agg #[(.int .i64 0), (.int .i64 0)]) 16 rfl Try.underlying36 info43 rfl (by decide) (by omega) u7 x7_1 (⟨wrap64 (((rd_T43 l0 x15_1).f0) + a1), wrap64 (((rd_T43 l0 x15_1).f1) + a2)⟩ : S43) [.int .i64 (wrap64 (((rd_T43 l0 x15_1).f0) + a1)), .int .i64 (wrap64 (((rd_T43 l0 x15_1).f1) + a2))] (fun k_ => k_ ≠ gb327) (fun _ => False) rfl (by first | (go_simp; done) | (go_simp; rfl)) ?aP (fun _ hk => hk.elim) ?aF ?aO ?aB ?aS ?aL ?_; (case aP => exact k43_mkM _ _ _ (⟨wrap64 (((rd_T43 l0 x15_1).f0) + a1), wrap64 (((rd_T43 l0 x15_1).f1) + a2)⟩ : S43)); (case aB => exact (zs GE327.out)); (case aF => exact (fun k_ hk => Kd.freshB (g := gb327) (o := .cells #[.int .i64 ((rd_T43 l0 x15_1).f0), .int .i64 ((rd_T43 l0 x15_1).f1)] 43 (0, 0)) (by (with_reducible repeat (first | refine blk_drewN ?_ _ | refine blk_drew ?_ | refine blk_alloc ?_ _)); refine blk_put (cs := #[.int .i64 ((rd_T43 l0 x15_1).f0), .int .i64 0]) ?_ 1 _ rfl; (with_reducible repeat (first | refine blk_drewN ?_ _ | refine blk_drew ?_ | refine blk_alloc ?_ _)); refine blk_put (cs := #[.int .i64 0, .int .i64 0]) ?_ 0 _ rfl; (with_reducible repeat (first | refine blk_drewN ?_ _ | refine blk_drew ?_ | refine blk_alloc ?_ _)); exact BK327.out) k_ hk)); (case aO => exact (by (with_reducible repeat (first | apply Kd.R_alloc | apply Kd.R_drewN | apply Kd.R_drew)); exact Kd.R_mono (Kd.R_far (p := ⟨gb327, 1, none⟩) (Kd.R_far (p := ⟨gb327, 0, none⟩) (Kd.R_mono HO_7.out (fun k_ hk => (⟨hk, hk.2⟩ : _ ∧ k_ ≠ gb327))) (fun _ hk => hk.2) (.int .i64 ((rd_T43 l0 x15_1).f0))) (fun _ hk => hk.2) (.int .i64 ((rd_T43 l0 x15_1).f1))) (fun _ hk => hk.1.2))); (case aS => exact (below_size (zs GE327.out))); (case aL => have := LMc11.out; omega); intro v329 w14 ho hb hg hat; rw [← Ny328.out] at ho; have n0_ := aM (blk_grown (g := gb327) (o := .cells #[.int .i64 ((rd_T43 l0 x15_1).f0), .int .i64 ((rd_T43 l0 x15_1).f1)] 43 (0, 0)) (by (with_reducible repeat (first | refine blk_drewN ?_ _ | refine blk_drew ?_ | refine blk_alloc ?_ _)); refine blk_put (cs := #[.int .i64 ((rd_T43 l0 x15_1).f0), .int .i64 0]) ?_ 1 _ rfl; (with_reducible repeat (first | refine blk_drewN ?_ _ | refine blk_drew ?_ | refine blk_alloc ?_ _)); refine blk_put (cs := #[.int .i64 0, .int .i64 0]) ?_ 0 _ rfl; (with_reducible repeat (first | refine blk_drewN ?_ _ | refine blk_drew ?_ | refine blk_alloc ?_ _)); exact BK327.out) hg (Kd.R_away HO_7.out (fun _ hk => hk.2))); have n1_ := aM (hb); have n2_ := aM (ho); clear BK327 HB HO_7; have BK327 := n0_; have HB := n1_; have HO330 := n2_; clear n0_ n1_ n2_; clear ho hb hg hat))
   go_roundg k1
   case measure => have := HK1.out; omega
   case rel => exact ⟨(y328), (wrap64 (x15_1 + 1)), zr, H', ⟨by have := HK1.out; omega⟩, ⟨zd1 HO330.out⟩, ⟨zs GE327.out⟩⟩
def impl_Cell_63.f (l0 : List S43) : Option (List S43) := if l0.length ≤ 1000000000000 then some l0 else none
set_option maxHeartbeats 4000000 in
theorem impl_Cell_63.calls (A0 : Option Addr) (c0 : Nat) (l0 : List S43) (r : List S43) (w : World) (hr0 : Kd.C k43 w A0 l0.length l0) (hc0 : l0.length ≤ c0) (h : impl_Cell_63.f l0 = some r) :
    Calls Try.prog 63 #[.slice A0 l0.length c0] w fun e w' => ∃ v0_ : Value, e = .returned (v0_) ∧ Kd.R k43 43 w' w.heap.size (fun _ => True) v0_ r ∧ Below w.heap.size w w' := by
  unfold impl_Cell_63.f at h
  by_cases hl : l0.length ≤ 1000000000000
  · rw [if_pos hl] at h
    obtain rfl := Option.some.inj h
    have q22 : ∀ (w : World) (a : Option Addr) (n c n' c' : Nat), (binOp .eql 36 (.slice a n c) (.slice none n' c')).run Try.prog w = .ok (.bool a.isNone) w := fun w a n c n' c' => Lib.run_eql_slice_nil w _ _ a n c n' c' Try.underlying36
    have u22 : ∀ w, Sem.run Try.prog (underlying 36) w = .ok (TypeDesc.slice 43) w := run_underlying Try.underlying36
    cases A0 with
    | none =>
      have h0 : l0 = [] := by
        refine List.length_eq_zero_iff.1 (Nat.eq_zero_of_not_pos fun hp => ?_)
        obtain ⟨ad, he, _⟩ := hr0.2.2 hp
        cases he
      subst h0
      clear hr0
      go_enter Try.func63, Try.ntmps63
      go_wp2
      go_ret
      exact ⟨_, rfl, Kd.R_nil _ _ _ _ _, Below.refl _ _⟩
    | some ad =>
      obtain ⟨inner, hreps, hcell⟩ := ReadsRow.inner_ hr0
      obtain ⟨i0, hi, hzz⟩ := Option.map_eq_some_iff.1 info43
      simp only [Prod.mk.injEq] at hzz
      obtain ⟨hz0, hz1, hz2⟩ := hzz
      have hil : inner.length = l0.length * 2 := hreps.1
      have h1 : ∀ u ∈ inner, u.oneCell' = true := by
        intro u hu
        obtain ⟨j, hj, e⟩ := List.getElem_of_mem hu
        have hjl : j / 2 < l0.length := by omega
        have hk := hreps.2 (j / 2) l0[j / 2] (List.getElem?_eq_getElem hjl)
        refine k43.K_one hk u ?_
        refine List.mem_of_getElem? (i := j % 2) ?_
        rw [List.getElem?_take_of_lt (show j % 2 < k43.sz from Nat.mod_lt _ (by decide)), List.getElem?_drop]
        rw [show j / 2 * k43.sz + j % 2 = j from by show j / 2 * 2 + j % 2 = j; omega, List.getElem?_eq_getElem hj, e]
      have A := aM hcell
      have HR := aM hreps
      have H1 := aM h1
      clear hr0 hcell hreps h1
      go_enter Try.func63, Try.ntmps63
      go_wp2_with (at_builtin; refine wpList_append_own _ rfl _ _ 36 rfl w.heap.size 43 i0 _ 2 16 Try.underlying36 hi hz0 hz1 hz2 rfl (by decide) _ _ _ rfl (World.ownsRow_made w #[] 0 (Nat.le_refl _) (Nat.zero_le _) (by simp)) ad l0.length c0 inner rfl ?qc1 ?qc2 ?qc3 ?qc4 ?qc5 ?qc6 ?_)
      (try case qc1 => exact hil)
      case qc2 =>
        intro j u hj
        exact Lib.cell?_alloc_some _ (A.out j u hj)
      case qc3 => exact H1.out
      case qc4 => simp only [maxLen]; omega
      case qc5 => omega
      (try case qc6 => simp)
      intro v' w1 hown hgrow hnil
      go_wp2
      go_ret
      have hB : Below w.heap.size w w1 := ((Below.refl _ w).alloc (Nat.le_refl _) _).grown hgrow (by simp) (by intro k hk; simp [Value.ownBlock] at hk; omega)
      refine ⟨v', rfl, ⟨fun _ _ => trivial, inner, (show w1.ownsRow w.heap.size 43 2 v' l0.length inner by simpa using hown), HR.out.1, fun j p hp => ?_⟩, hB⟩
      obtain ⟨c1, c2, e, e1, e2⟩ := HR.out.2 j p hp
      exact ⟨c1, c2, e, e1, e2⟩
  · rw [if_neg hl] at h
    exact absurd h (by simp)
def impl_sorted.f (l0 : List (S43)) : Option ((List (S43))) := (impl_Cell_63.f l0).bind fun t337 => ((impl_Cell_67__impl_compareCells.f t337).bind fun t340 => (some t340))
theorem impl_sorted.calls (A0 : Option Addr) (c0 : Nat) (l0 : List (S43)) (r : List (S43)) (w : World) (hr0 : Kd.C k43 w A0 l0.length l0) (hc0 : l0.length ≤ c0) (h : impl_sorted.f l0 = some r) :
  Calls Try.prog 53 #[.slice A0 l0.length c0] w fun e w' => ∃ v0_ : Value, e = .returned (v0_) ∧ Kd.R k43 43 w' w.heap.size (fun _ => True) v0_ r ∧ Below w.heap.size w w' := by
 have HR0 := aM hr0
 have HC0 := aM hc0
 clear hr0 hc0
 have HB := aM (Below.refl w.heap.size w)
 have H : ((impl_Cell_63.f l0).bind fun t337 => ((impl_Cell_67__impl_compareCells.f t337).bind fun t340 => (some t340))) = some r := h
 clear h
 replace H := Option.bind_eq_some_iff.mp H
 obtain ⟨t337, A20, H⟩ := H
 replace H : ((impl_Cell_67__impl_compareCells.f t337).bind fun t340 => (some t340)) = some r := H
 have A2 := aM A20
 clear A20
 replace H := Option.bind_eq_some_iff.mp H
 obtain ⟨t340, A30, H⟩ := H
 replace H : (some t340) = some r := H
 have A3 := aM A30
 clear A30
 obtain rfl := Option.some.inj H
 go_enter Try.func53, Try.ntmps53
 go_wp2_with (first | ((with_reducible refine gate_callee (f := 63) rfl ?_); refine goesL_ (some 5) rfl rfl Try.func63 (by kernel_rfl) rfl #[.slice A0 l0.length c0] rfl zm ?_; (with_reducible refine (impl_Cell_63.calls _ _ l0 t337 _ ?side1 ?side2 A2.out).mono ?_); (case side1 => repeat (first | exact HR0.out | (with_reducible refine Kd.C_alloc ?_ _) | (with_reducible refine Kd.C_drewN ?_ _) | (with_reducible refine Kd.C_drew ?_))); (case side2 => exact HC0.out); rintro e w4 ⟨v338, rfl, ho0, hb⟩; refine ⟨_, rfl, ?_⟩; have n0_ := aM (Kd.R_lower ho0 (below_size zb)); have n1_ := aM (below_step zb hb); clear HB; have HO339 := n0_; have HB := n1_; clear n0_ n1_; (try clear hb); (try clear hb2); (try clear hk); (try clear hi); (try clear ho0); obtain ⟨Ao5, co5, eo5⟩ := Kd.R_slice HO339.out; subst eo5) | ((with_reducible refine gate_callee (f := 67) rfl ?_); refine goesL_ (some 7) rfl rfl Try.func67 (by kernel_rfl) rfl #[.slice Ao5 t337.length co5, .func (.func 59) #[] #[]] rfl zm ?_; (with_reducible refine (impl_Cell_67__impl_compareCells.calls (fun k_ => some k_ = (.slice Ao5 t337.length co5 : Value).ownBlock) (.slice Ao5 t337.length co5) t337  t340 w _ ?side1 ?side2 A3.out).mono ?_); (case side1 => repeat (first | (with_reducible first | exact HB.out | apply below_alloc | apply pw_below_drewN | apply below_drew1) | exact HB.out)); (case side2 => exact Kd.R_tight rfl HO339.out); rintro e w6 ⟨rfl, hy0, hb, hkp⟩; refine ⟨_, rfl, ?_⟩; have n0_ := aM (Kd.R_reok rfl hy0 (fun k_ e_ => HO339.out.1 k_ e_)); have n1_ := aM (hb); clear HO339 HB; have HO339 := n0_; have HB := n1_; clear n0_ n1_; (try clear hb); (try clear hkp); (try clear hy0)))
 go_ret
 exact ⟨_, zw, mR_ HO339.out, zb⟩
def impl_Cell_76.l0 : Nat → List (S43) → Int → Int → Int → Int → Option (Int)
 | 0, _, _, _, _, _ => none
 | k + 1, x0, x7, x8, x346000, x346001 => if x8 < x7 then (if 0 ≤ x8 then (if x8 < (x0.length : Int) then (if (x346000 == ((rd_T43 x0 x8).f0) && (x346001 == ((rd_T43 x0 x8).f1))) = true then (some x8) else (impl_Cell_76.l0 k x0 x7 (wrap64 (x8 + 1)) x346000 x346001)) else (none)) else (none)) else (some (-1))
def impl_Cell_76.f (k : Nat) (l0 : List (S43)) (a1_0 : Int) (a1_1 : Int) : Option (Int) := impl_Cell_76.l0 k l0 (l0.length : Int) 0 a1_0 a1_1
theorem impl_Cell_76.calls (k : Nat) (A0 : Option Addr) (c0 : Nat) (l0 : List (S43)) (a1_0 : Int) (a1_1 : Int) (r : Int) (w : World) (hr0 : Kd.C k43 w A0 l0.length l0) (hc0 : l0.length ≤ c0) (h : impl_Cell_76.f k l0 a1_0 a1_1 = some r) :
  Calls Try.prog 76 #[.slice A0 l0.length c0, .agg #[.int .i64 a1_0, .int .i64 a1_1]] w fun e w' => e = .returned (.int .i64 r) ∧ Below w.heap.size w w' := by
 have hu43 := Try.underlying43
 have HR0 := aM hr0
 have HC0 := aM hc0
 clear hr0 hc0
 have HB := aM (Below.refl w.heap.size w)
 have H : (impl_Cell_76.l0 k l0 (l0.length : Int) 0 a1_0 a1_1) = some r := h
 clear h
 have H' := aM H
 clear H
 go_enter Try.func76, Try.ntmps76
 go_wp2_with (first | ((with_reducible refine gate_dst (N := 3) rfl ?_); refine zx 3 #[.int .i64 a1_0, .int .i64 a1_1] 43 ?_; intro gb345 hg w3 hbox hb; have n0_ := aM (below_step zb hb); have n1_ := aM (hbox); have n2_ := aM ((ze : w.heap.size ≤ gb345)); have n3_ := aM ((ze : w.heap.size ≤ gb345)); clear HB; have HB := n0_; have BK345 := n1_; have GW345 := n2_; have GE345 := n3_; clear n0_ n1_ n2_ n3_; clear hb hbox hg))
 repeat (go_quiet (first | ((with_reducible refine gate_dst (N := 3) rfl ?_); refine zx 3 #[.int .i64 a1_0, .int .i64 a1_1] 43 ?_; intro gb345 hg w3 hbox hb; have n0_ := aM (below_step zb hb); have n1_ := aM (hbox); have n2_ := aM ((ze : w.heap.size ≤ gb345)); have n3_ := aM ((ze : w.heap.size ≤ gb345)); clear HB; have HB := n0_; have BK345 := n1_; have GW345 := n2_; have GE345 := n3_; clear n0_ n1_ n2_ n3_; clear hb hbox hg)); try go_wp2_with (first | ((with_reducible refine gate_dst (N := 3) rfl ?_); refine zx 3 #[.int .i64 a1_0, .int .i64 a1_1] 43 ?_; intro gb345 hg w3 hbox hb; have n0_ := aM (below_step zb hb); have n1_ := aM (hbox); have n2_ := aM ((ze : w.heap.size ≤ gb345)); have n3_ := aM ((ze : w.heap.size ≤ gb345)); clear HB; have HB := n0_; have BK345 := n1_; have GW345 := n2_; have GE345 := n3_; clear n0_ n1_ n2_ n3_; clear hb hbox hg)))
 go_loopg [8] k (fun kq v8 w' => ∃ (x8_1 : Int), v8 = .int .i64 x8_1 ∧ Aside0 (impl_Cell_76.l0 kq l0 (l0.length : Int) x8_1 a1_0 a1_1 = some r) ∧ Aside0 (kq ≤ k) ∧ Aside0 (w'.heap[gb345]? = some (.cells #[.int .i64 a1_0, .int .i64 a1_1] 43 (0, 0))) ∧ Aside0 (Below w.heap.size w w'))
 case atStart => exact ⟨(0), zr, H', ⟨Nat.le_refl _⟩, ⟨mB_ BK345.out⟩, ⟨zs GE345.out⟩⟩
 case round =>
  clear H'
  try clear p2
  obtain ⟨x8_1, rfl, HA, HK1, BK345, HB⟩ := hrel
  cases gk with
  | zero => exact absurd HA.out (by simp [impl_Cell_76.l0])
  | succ k1 =>
   have H := HA.out
   clear HA
   simp only [impl_Cell_76.l0] at H
   by_cases c4 : x8_1 < (l0.length : Int)
   rotate_left
   ·rw [if_neg c4] at H
    have c4b0 : decide (x8_1 < (l0.length : Int)) = false := decide_eq_false c4
    clear c4
    obtain rfl := Option.some.inj H
    go_wp2
    repeat (go_quiet (fail); try go_wp2)
    go_ret
    exact ⟨zw, zs GE345.out⟩
   rw [if_pos c4] at H
   have c4b0 : decide (x8_1 < (l0.length : Int)) = true := decide_eq_true c4
   clear c4
   by_cases c5 : 0 ≤ x8_1
   rotate_left
   ·rw [if_neg c5] at H
    exact absurd H (by simp)
   rw [if_pos c5] at H
   have c5b0 : decide (0 ≤ x8_1) = true := decide_eq_true c5
   clear c5
   by_cases c6 : x8_1 < (l0.length : Int)
   rotate_left
   ·rw [if_neg c6] at H
    exact absurd H (by simp)
   rw [if_pos c6] at H
   have c6b0 : decide (x8_1 < (l0.length : Int)) = true := decide_eq_true c6
   clear c6
   by_cases c7 : (a1_0 == ((rd_T43 l0 x8_1).f0) && (a1_1 == ((rd_T43 l0 x8_1).f1))) = true
   ·rw [if_pos c7] at H
    have c7b0 : (a1_0 == ((rd_T43 l0 x8_1).f0) && (a1_1 == ((rd_T43 l0 x8_1).f1))) = true := c7
    (try (have c7b1 : decide (a1_0 = ((rd_T43 l0 x8_1).f0) && (a1_1 == ((rd_T43 l0 x8_1).f1))) = true := by simpa using c7))
    (try (have c7b2 : (a1_0 == ((rd_T43 l0 x8_1).f0) && (a1_1 == ((rd_T43 l0 x8_1).f1))) = true := by simpa using c7))
    clear c7
    obtain rfl := Option.some.inj H
    have hcz8_0 : wr.cell? ⟨gb345, 0, none⟩ = some (.int .i64 a1_0) := (blk_cell BK345.out 0).trans rfl
    have hcz8_1 : wr.cell? ⟨gb345, 1, none⟩ = some (.int .i64 a1_1) := (blk_cell BK345.out 1).trans rfl
    have hfz8_0 := blk_frozen BK345.out 0
    have hfz8_1 := blk_frozen BK345.out 1
    have p346 : 0 ≤ (x8_1 : Int) := of_decide_eq_true za
    have q346 : x8_1 < (l0.length : Int) := of_decide_eq_true za
    obtain ⟨ad346, e346, hx346_0, hx346_1⟩ := at_T43 HR0.out x8_1 p346 q346
    cases e346
    replace hx346_0 := zk HB.out hx346_0
    replace hx346_1 := zk HB.out hx346_1
    replace p346 := eq_true p346
    replace q346 := eq_true q346
    go_wp2
    repeat (go_quiet (fail); try go_wp2)
    go_ret
    exact ⟨zw, zs GE345.out⟩
   rw [if_neg c7] at H
   have c7b0 : (a1_0 == ((rd_T43 l0 x8_1).f0) && (a1_1 == ((rd_T43 l0 x8_1).f1))) = false := by simpa using c7
   (try (have c7b1 : decide (a1_0 = ((rd_T43 l0 x8_1).f0) && (a1_1 == ((rd_T43 l0 x8_1).f1))) = false := by simpa using c7))
   (try (have c7b2 : (a1_0 == ((rd_T43 l0 x8_1).f0) && (a1_1 == ((rd_T43 l0 x8_1).f1))) = false := by simpa using c7))
   (try (have c7b3 : ¬ (a1_0 = ((rd_T43 l0 x8_1).f0) && (a1_1 == ((rd_T43 l0 x8_1).f1))) := by simpa using c7))
   clear c7
   have H' := aM H
   clear H
   have hcz9_0 : wr.cell? ⟨gb345, 0, none⟩ = some (.int .i64 a1_0) := (blk_cell BK345.out 0).trans rfl
   have hcz9_1 : wr.cell? ⟨gb345, 1, none⟩ = some (.int .i64 a1_1) := (blk_cell BK345.out 1).trans rfl
   have hfz9_0 := blk_frozen BK345.out 0
   have hfz9_1 := blk_frozen BK345.out 1
   have p346 : 0 ≤ (x8_1 : Int) := of_decide_eq_true za
   have q346 : x8_1 < (l0.length : Int) := of_decide_eq_true za
   obtain ⟨ad346, e346, hx346_0, hx346_1⟩ := at_T43 HR0.out x8_1 p346 q346
   cases e346
   replace hx346_0 := zk HB.out hx346_0
   replace hx346_1 := zk HB.out hx346_1
   replace p346 := eq_true p346
   replace q346 := eq_true q346
   go_wp2
   repeat (go_quiet (fail); try go_wp2)
   go_roundg k1
   case measure => have := HK1.out; omega
   case rel => exact ⟨(wrap64 (x8_1 + 1)), zr, H', ⟨by have := HK1.out; omega⟩, ⟨mB_ BK345.out⟩, ⟨zs GE345.out⟩⟩
def impl_Cell_70.f (k : Nat) (l0 : List (S43)) (a1_0 : Int) (a1_1 : Int) : Option (Bool) := (impl_Cell_76.f k l0 a1_0 a1_1).bind fun t348 => (some (decide (t348 ≥ 0)))
theorem impl_Cell_70.calls (k : Nat) (A0 : Option Addr) (c0 : Nat) (l0 : List (S43)) (a1_0 : Int) (a1_1 : Int) (r : Bool) (w : World) (hr0 : Kd.C k43 w A0 l0.length l0) (hc0 : l0.length ≤ c0) (h : impl_Cell_70.f k l0 a1_0 a1_1 = some r) :
  Calls Try.prog 70 #[.slice A0 l0.length c0, .agg #[.int .i64 a1_0, .int .i64 a1_1]] w fun e w' => e = .returned (.bool r) ∧ Below w.heap.size w w' := by
 have hu43 := Try.underlying43
 have HR0 := aM hr0
 have HC0 := aM hc0
 clear hr0 hc0
 have HB := aM (Below.refl w.heap.size w)
 have H : ((impl_Cell_76.f k l0 a1_0 a1_1).bind fun t348 => (some (decide (t348 ≥ 0)))) = some r := h
 clear h
 replace H := Option.bind_eq_some_iff.mp H
 obtain ⟨t348, A30, H⟩ := H
 replace H : (some (decide (t348 ≥ 0))) = some r := H
 have A3 := aM A30
 clear A30
 obtain rfl := Option.some.inj H
 go_enter Try.func70, Try.ntmps70
 go_wp2_with (first | ((with_reducible refine gate_dst (N := 3) rfl ?_); refine zx 3 #[.int .i64 a1_0, .int .i64 a1_1] 43 ?_; intro gb347 hg w4 hbox hb; have n0_ := aM (below_step zb hb); have n1_ := aM (hbox); have n2_ := aM ((ze : w.heap.size ≤ gb347)); have n3_ := aM ((ze : w.heap.size ≤ gb347)); clear HB; have HB := n0_; have BK347 := n1_; have GW347 := n2_; have GE347 := n3_; clear n0_ n1_ n2_ n3_ hb hbox hg; have hcz5_0 : w4.cell? ⟨gb347, 0, none⟩ = some (.int .i64 a1_0) := (blk_cell BK347.out 0).trans rfl; have hcz5_1 : w4.cell? ⟨gb347, 1, none⟩ = some (.int .i64 a1_1) := (blk_cell BK347.out 1).trans rfl; have hfz5_0 := blk_frozen BK347.out 0; have hfz5_1 := blk_frozen BK347.out 1) | ((with_reducible refine gate_callee (f := 76) rfl ?_); refine goesL_ (some 7) rfl rfl Try.func76 (by kernel_rfl) rfl #[.slice A0 l0.length c0, .agg #[.int .i64 a1_0, .int .i64 a1_1]] rfl zm ?_; (with_reducible refine (impl_Cell_76.calls k _ _ l0 a1_0 a1_1 t348 _ ?side1 ?side2 A3.out).mono ?_); (case side1 => repeat (first | exact (Kd.C_below HR0.out HB.out) | (with_reducible refine Kd.C_alloc ?_ _) | (with_reducible refine Kd.C_drewN ?_ _) | (with_reducible refine Kd.C_drew ?_))); (case side2 => exact HC0.out); rintro e w6 ⟨rfl, hb⟩; refine ⟨_, rfl, ?_⟩; have n0_ := aM (blk_below (g := gb347) (o := .cells #[.int .i64 a1_0, .int .i64 a1_1] 43 (0, 0)) (mB_ BK347.out) hb); have n1_ := aM (below_step (zs GE347.out) hb); clear BK347 HB; have BK347 := n0_; have HB := n1_; clear n0_ n1_; (try clear hb); (try clear hb2); (try clear hk); (try clear hi)))
 go_ret
 exact ⟨zw, zs GE347.out⟩
end Go.Proofs.Ytibbjiehblpmfaa.F
end
section
namespace Go.Proofs.Ytibbjiehblpmfaa.F
open Go.RowKit Go.Proofs.YtibbjiehblpmfaaW.PrintWords Go.Proofs.YtibbjiehblpmfaaW.PrintLast Go.Proofs.YtibbjiehblpmfaaW.PrintMore
attribute [local go_sem] max2_int min2_int max_two min_two max_three min_three max_four min_four
set_option linter.unusedVariables false
set_option linter.unusedSimpArgs false
def spec_HexShapes.f (k : Nat) (a0 : Int) : Option ((List (List (S43))) × Int) := (spec_l01In.f a0 1 5).bind fun t296 => (if t296 = true then ((spec_l07All.f k 1 a0).bind fun t297 => ((spec_l07Free.f k 1 t297).bind fun t300 => (some (t300, 0)))) else (some (([] : List (List (S43))), 2)))
theorem spec_HexShapes.calls (k : Nat) (a0 : Int) (r1 : List (List (S43))) (r2 : Int) (w : World) (h : spec_HexShapes.f k a0 = some (r1, r2)) :
  Calls Try.prog 5 #[.int .i64 a0] w fun e w' => ∃ v0_ : Value, e = .returned (.tuple #[v0_, .int .i64 r2]) ∧ Kd.V (Kd.slice 43 k43) 36 w' w.heap.size (fun k_ => (w.heap.size ≤ k_)) v0_ r1 ∧ Below w.heap.size w w' := by
 have HB := aM (Below.refl w.heap.size w)
 have H : ((spec_l01In.f a0 1 5).bind fun t296 => (if t296 = true then ((spec_l07All.f k 1 a0).bind fun t297 => ((spec_l07Free.f k 1 t297).bind fun t300 => (some (t300, 0)))) else (some (([] : List (List (S43))), 2)))) = some (r1, r2) := h
 clear h
 replace H := Option.bind_eq_some_iff.mp H
 obtain ⟨t296, A20, H⟩ := H
 replace H : (if t296 = true then ((spec_l07All.f k 1 a0).bind fun t297 => ((spec_l07Free.f k 1 t297).bind fun t300 => (some (t300, 0)))) else (some (([] : List (List (S43))), 2))) = some (r1, r2) := H
 have A2 := aM A20
 clear A20
 by_cases c3 : t296 = true
 rotate_left
 ·replace c3 := Bool.eq_false_iff.mpr c3
  subst c3
  have H1 : (some (([] : List (List (S43))), 2)) = some (r1, r2) := by rw [if_neg (show ¬ (false = true) by decide)] at H; exact H
  clear H
  have H := H1
  clear H1
  simp only [Option.some.injEq, Prod.mk.injEq] at H
  obtain ⟨rfl, rfl⟩ := H
  go_enter Try.func5, Try.ntmps5
  go_wp2_with (first | ((with_reducible refine gate_callee (f := 12) rfl ?_); refine goesL_ (some 5) rfl rfl Try.func12 (by kernel_rfl) rfl #[.int .i64 a0, .int .i64 1, .int .i64 5] rfl zm ?_; (with_reducible refine (spec_l01In.calls a0 1 5 false _ A2.out).mono ?_); rintro e w' ⟨rfl, ⟨nd, rfl⟩⟩; refine ⟨_, rfl, ?_⟩))
  go_ret2
  exact ⟨_, zw, by first | exact Kd.S_nil _ _ _ _ _ | exact Kd.N_nil _ _ _ _ _ | exact Kd.V_nil _ _ _ _ _ | exact Kd.Q_nil _ _ _ _ _ | exact Kd.R_nil _ _ _ _ _, zb⟩
 subst c3
 have H1 : ((spec_l07All.f k 1 a0).bind fun t297 => ((spec_l07Free.f k 1 t297).bind fun t300 => (some (t300, 0)))) = some (r1, r2) := by rw [if_pos rfl] at H; exact H
 clear H
 have H := H1
 clear H1
 replace H := Option.bind_eq_some_iff.mp H
 obtain ⟨t297, A40, H⟩ := H
 replace H : ((spec_l07Free.f k 1 t297).bind fun t300 => (some (t300, 0))) = some (r1, r2) := H
 have A4 := aM A40
 clear A40
 replace H := Option.bind_eq_some_iff.mp H
 obtain ⟨t300, A50, H⟩ := H
 replace H : (some (t300, 0)) = some (r1, r2) := H
 have A5 := aM A50
 clear A50
 simp only [Option.some.injEq, Prod.mk.injEq] at H
 obtain ⟨rfl, rfl⟩ := H
 go_enter Try.func5, Try.ntmps5
 go_wp2_with (first | ((with_reducible refine gate_callee (f := 12) rfl ?_); refine goesL_ (some 5) rfl rfl Try.func12 (by kernel_rfl) rfl #[.int .i64 a0, .int .i64 1, .int .i64 5] rfl zm ?_; (with_reducible refine (spec_l01In.calls a0 1 5 true _ A2.out).mono ?_); rintro e w' ⟨rfl, ⟨nd, rfl⟩⟩; refine ⟨_, rfl, ?_⟩) | ((with_reducible refine gate_callee (f := 14) rfl ?_); refine goesL_ (some 8) rfl rfl Try.func14 (by kernel_rfl) rfl #[.int .i64 1, .int .i64 a0] rfl zm ?_; (with_reducible refine (spec_l07All.calls k 1 a0 t297 _ A4.out).mono ?_); rintro e w6 ⟨v298, rfl, ho0, hb⟩; refine ⟨_, rfl, ?_⟩; have n0_ := aM (Kd.V_lower (Kd.V_mono (ok' := fun k_ => (w.heap.size ≤ k_)) ho0 (fun k_ hk_ => (Nat.le_trans (below_size zb) hk_))) (below_size zb)); have n1_ := aM (below_step zb hb); clear HB; have HO299 := n0_; have HB := n1_; clear n0_ n1_; (try clear hb); (try clear hb2); (try clear hk); (try clear hi); (try clear ho0); obtain ⟨Ao7, co7, eo7⟩ := Kd.V_slice HO299.out; subst eo7) | ((with_reducible refine gate_callee (f := 13) rfl ?_); refine goesL_ (some 9) rfl rfl Try.func13 (by kernel_rfl) rfl #[.int .i64 1, .slice Ao7 t297.length co7] rfl zm ?_; (with_reducible refine (spec_l07Free.calls k 1 (fun k_ => (w.heap.size ≤ k_)) _ _ t297 t300 _ ?side1 A5.out).mono ?_); (case side1 => exact HO299.out); rintro e w8 ⟨v301, rfl, ho0, hb⟩; refine ⟨_, rfl, ?_⟩; have n0_ := aM (Kd.V_elder' (mV_ HO299.out) (by first | exact Kd.N_base ho0 | exact Kd.S_base ho0 | exact Kd.R_base ho0) hb); have n1_ := aM (Kd.N_lower (Kd.N_mono (ok' := fun k_ => (w.heap.size ≤ k_)) ho0 (fun k_ hk_ => Or.elim hk_ (fun hs_ => hs_) (fun hn_ => (Nat.le_trans (below_size zb) hn_)))) (below_size zb)); have n2_ := aM (below_step zb hb); clear HO299 HB; have HO299 := n0_; have HO302 := n1_; have HB := n2_; clear n0_ n1_ n2_; (try clear hb); (try clear hb2); (try clear hk); (try clear hi); (try clear ho0)))
 go_ret2
 exact ⟨_, zw, Kd.N_V (mN_ HO302.out), zb⟩
def impl_normal.f (k : Nat) (l0 : List (S43)) : Option ((List (S43))) := (impl_corner.f k l0).bind fun bt331 => ((impl_moved.f k l0 (wrap64 (-bt331.1)) (wrap64 (-bt331.2))).bind fun t334 => (some t334))
theorem impl_normal.calls (k : Nat) (A0 : Option Addr) (c0 : Nat) (l0 : List (S43)) (r : List (S43)) (w : World) (hr0 : Kd.C k43 w A0 l0.length l0) (hc0 : l0.length ≤ c0) (h : impl_normal.f k l0 = some r) :
  Calls Try.prog 36 #[.slice A0 l0.length c0] w fun e w' => ∃ v0_ : Value, e = .returned (v0_) ∧ Kd.R k43 43 w' w.heap.size (fun _ => True) v0_ r ∧ Below w.heap.size w w' := by
 have hu43 := Try.underlying43
 have HR0 := aM hr0
 have HC0 := aM hc0
 clear hr0 hc0
 have HB := aM (Below.refl w.heap.size w)
 have H : ((impl_corner.f k l0).bind fun bt331 => ((impl_moved.f k l0 (wrap64 (-bt331.1)) (wrap64 (-bt331.2))).bind fun t334 => (some t334))) = some r := h
 clear h
 replace H := Option.bind_eq_some_iff.mp H
 obtain ⟨⟨t331, t332⟩, A20, H⟩ := H
 replace H : ((impl_moved.f k l0 (wrap64 (-t331)) (wrap64 (-t332))).bind fun t334 => (some t334)) = some r := H
 have A2 := aM A20
 clear A20
 replace H := Option.bind_eq_some_iff.mp H
 obtain ⟨t334, A30, H⟩ := H
 replace H : (some t334) = some r := H
 have A3 := aM A30
 clear A30
 obtain rfl := Option.some.inj H
 go_enter Try.func36, Try.ntmps36
 go_wp2_with (first | ((with_reducible refine gate_callee (f := 51) rfl ?_); refine goesL_ (some 5) rfl rfl Try.func51 (by kernel_rfl) rfl #[.slice A0 l0.length c0] rfl zm ?_; (with_reducible refine (impl_corner.calls k _ _ l0 t331 t332 _ ?side1 ?side2 A2.out).mono ?_); (case side1 => repeat (first | exact HR0.out | (with_reducible refine Kd.C_alloc ?_ _) | (with_reducible refine Kd.C_drewN ?_ _) | (with_reducible refine Kd.C_drew ?_))); (case side2 => exact HC0.out); rintro e w4 ⟨rfl, hb⟩; refine ⟨_, rfl, ?_⟩; have n0_ := aM (below_step zb hb); clear HB; have HB := n0_; clear n0_; (try clear hb); (try clear hb2); (try clear hk); (try clear hi)) | ((with_reducible refine gate_dst (N := 3) rfl ?_); refine zx 3 #[.int .i64 0, .int .i64 0] 43 ?_; intro gb333 hg w5 hbox hb; have n0_ := aM (below_step zb hb); have n1_ := aM (hbox); have n2_ := aM ((ze : w.heap.size ≤ gb333)); have n3_ := aM ((ze : w.heap.size ≤ gb333)); clear HB; have HB := n0_; have BK333 := n1_; have GW333 := n2_; have GE333 := n3_; clear n0_ n1_ n2_ n3_ hb hbox hg; have hcz6_0 : w5.cell? ⟨gb333, 0, none⟩ = some (.int .i64 0) := (blk_cell BK333.out 0).trans rfl; have hcz6_1 : w5.cell? ⟨gb333, 1, none⟩ = some (.int .i64 0) := (blk_cell BK333.out 1).trans rfl; have hfz6_0 := blk_frozen BK333.out 0; have hfz6_1 := blk_frozen BK333.out 1) | ((with_reducible refine gate_callee (f := 52) rfl ?_); refine goesL_ (some 13) rfl rfl Try.func52 (by kernel_rfl) rfl #[.slice A0 l0.length c0, .int .i64 (wrap64 (-t331)), .int .i64 (wrap64 (-t332))] rfl zm ?_; (with_reducible refine (impl_moved.calls k _ _ l0 (wrap64 (-t331)) (wrap64 (-t332)) t334 _ ?side1 ?side2 A3.out).mono ?_); (case side1 => exact Kd.C_below HR0.out (zs GE333.out)); (case side2 => exact HC0.out); rintro e w7 ⟨v335, rfl, ho0, hb⟩; refine ⟨_, rfl, ?_⟩; have n0_ := aM (Kd.R_lower (Kd.R_newB ho0 (g := gb333) (o := .cells #[.int .i64 t331, .int .i64 t332] 43 (0, 0)) (by (with_reducible repeat (first | refine blk_drewN ?_ _ | refine blk_drew ?_ | refine blk_alloc ?_ _)); refine blk_put (cs := #[.int .i64 t331, .int .i64 0]) ?_ 1 _ rfl; (with_reducible repeat (first | refine blk_drewN ?_ _ | refine blk_drew ?_ | refine blk_alloc ?_ _)); refine blk_put (cs := #[.int .i64 0, .int .i64 0]) ?_ 0 _ rfl; (with_reducible repeat (first | refine blk_drewN ?_ _ | refine blk_drew ?_ | refine blk_alloc ?_ _)); exact BK333.out)) (below_size (zs GE333.out))); have n1_ := aM (blk_below (g := gb333) (o := .cells #[.int .i64 t331, .int .i64 t332] 43 (0, 0)) (by (with_reducible repeat (first | refine blk_drewN ?_ _ | refine blk_drew ?_ | refine blk_alloc ?_ _)); refine blk_put (cs := #[.int .i64 t331, .int .i64 0]) ?_ 1 _ rfl; (with_reducible repeat (first | refine blk_drewN ?_ _ | refine blk_drew ?_ | refine blk_alloc ?_ _)); refine blk_put (cs := #[.int .i64 0, .int .i64 0]) ?_ 0 _ rfl; (with_reducible repeat (first | refine blk_drewN ?_ _ | refine blk_drew ?_ | refine blk_alloc ?_ _)); exact BK333.out) hb); have n2_ := aM (below_step (zs GE333.out) hb); clear BK333 HB; have HO336 := n0_; have BK333 := n1_; have HB := n2_; clear n0_ n1_ n2_; (try clear hb); (try clear hb2); (try clear hk); (try clear hi); (try clear ho0)))
 go_ret
 exact ⟨_, zw, zd1 HO336.out, zs GE333.out⟩
def impl_hexAround.f (a0_0 : Int) (a0_1 : Int) : Option ((List (S43))) := some (([(⟨a0_0, wrap64 (a0_1 - 1)⟩ : S43), (⟨wrap64 (a0_0 + 1), wrap64 (a0_1 - 1)⟩ : S43), (⟨wrap64 (a0_0 - 1), a0_1⟩ : S43), (⟨wrap64 (a0_0 + 1), a0_1⟩ : S43), (⟨wrap64 (a0_0 - 1), wrap64 (a0_1 + 1)⟩ : S43), (⟨a0_0, wrap64 (a0_1 + 1)⟩ : S43)] : List (S43)))
theorem impl_hexAround.calls (a0_0 : Int) (a0_1 : Int) (r : List (S43)) (w : World) (h : impl_hexAround.f a0_0 a0_1 = some r) :
  Calls Try.prog 35 #[.agg #[.int .i64 a0_0, .int .i64 a0_1]] w fun e w' => ∃ v0_ : Value, e = .returned (v0_) ∧ Kd.R k43 43 w' w.heap.size (fun _ => True) v0_ r ∧ Below w.heap.size w w' := by
 have hu43 := Try.underlying43
 have HB := aM (Below.refl w.heap.size w)
 have H : (some (([(⟨a0_0, wrap64 (a0_1 - 1)⟩ : S43), (⟨wrap64 (a0_0 + 1), wrap64 (a0_1 - 1)⟩ : S43), (⟨wrap64 (a0_0 - 1), a0_1⟩ : S43), (⟨wrap64 (a0_0 + 1), a0_1⟩ : S43), (⟨wrap64 (a0_0 - 1), wrap64 (a0_1 + 1)⟩ : S43), (⟨a0_0, wrap64 (a0_1 + 1)⟩ : S43)] : List (S43)))) = some r := h
 clear h
 obtain ⟨y342, hy342⟩ : ∃ y_ : List (S43), y_ = (([(⟨a0_0, wrap64 (a0_1 - 1)⟩ : S43), (⟨wrap64 (a0_0 + 1), wrap64 (a0_1 - 1)⟩ : S43), (⟨wrap64 (a0_0 - 1), a0_1⟩ : S43), (⟨wrap64 (a0_0 + 1), a0_1⟩ : S43), (⟨wrap64 (a0_0 - 1), wrap64 (a0_1 + 1)⟩ : S43), (⟨a0_0, wrap64 (a0_1 + 1)⟩ : S43)] : List (S43))) := ⟨_, rfl⟩
 replace H : (some y342) = some r := zy H hy342
 have Ny342 := aM hy342
 clear hy342
 obtain rfl := Option.some.inj H
 go_enter Try.func35, Try.ntmps35
 go_wp2_with (first | ((with_reducible refine gate_dst (N := 1) rfl ?_); refine zx 1 #[.int .i64 a0_0, .int .i64 a0_1] 43 ?_; intro gb341 hg w2 hbox hb; have n0_ := aM (below_step zb hb); have n1_ := aM (hbox); have n2_ := aM ((ze : w.heap.size ≤ gb341)); have n3_ := aM ((ze : w.heap.size ≤ gb341)); clear HB; have HB := n0_; have BK341 := n1_; have GW341 := n2_; have GE341 := n3_; clear n0_ n1_ n2_ n3_ hb hbox hg; have hcz3_0 : w2.cell? ⟨gb341, 0, none⟩ = some (.int .i64 a0_0) := (blk_cell BK341.out 0).trans rfl; have hcz3_1 : w2.cell? ⟨gb341, 1, none⟩ = some (.int .i64 a0_1) := (blk_cell BK341.out 1).trans rfl; have hfz3_0 := blk_frozen BK341.out 0; have hfz3_1 := blk_frozen BK341.out 1) | ((with_reducible refine gate_dst (N := 41) rfl ?_); refine Kd.R_lit k43 _ 43 ?hg (N := 41) ?hd (xs := ([(⟨a0_0, wrap64 (a0_1 - 1)⟩ : S43), (⟨wrap64 (a0_0 + 1), wrap64 (a0_1 - 1)⟩ : S43), (⟨wrap64 (a0_0 - 1), a0_1⟩ : S43), (⟨wrap64 (a0_0 + 1), a0_1⟩ : S43), (⟨wrap64 (a0_0 - 1), wrap64 (a0_1 + 1)⟩ : S43), (⟨a0_0, wrap64 (a0_1 + 1)⟩ : S43)] : List (S43))) (inner := [.int .i64 a0_0, .int .i64 (wrap64 (a0_1 - 1)), .int .i64 (wrap64 (a0_0 + 1)), .int .i64 (wrap64 (a0_1 - 1)), .int .i64 (wrap64 (a0_0 - 1)), .int .i64 a0_1, .int .i64 (wrap64 (a0_0 + 1)), .int .i64 a0_1, .int .i64 (wrap64 (a0_0 - 1)), .int .i64 (wrap64 (a0_1 + 1)), .int .i64 a0_0, .int .i64 (wrap64 (a0_1 + 1))]) (ok := fun _ => True) (okp := fun _ => True) ?hr ?hp (fun _ hk => hk) trivial (Below.refl _ _) (Nat.le_refl _) (by simp) ?_; (case hd => rfl); (case hg => rfl); (case hr => first | (go_simp; done) | (go_simp; rfl)); (case hp => exact (Reps.c2 (show Kd.M k43 _ _ _ (⟨a0_0, wrap64 (a0_1 - 1)⟩ : S43) [.int .i64 a0_0, .int .i64 (wrap64 (a0_1 - 1))] from (k43_mkM _ _ _ (⟨a0_0, wrap64 (a0_1 - 1)⟩ : S43) )) (Reps.c2 (show Kd.M k43 _ _ _ (⟨wrap64 (a0_0 + 1), wrap64 (a0_1 - 1)⟩ : S43) [.int .i64 (wrap64 (a0_0 + 1)), .int .i64 (wrap64 (a0_1 - 1))] from (k43_mkM _ _ _ (⟨wrap64 (a0_0 + 1), wrap64 (a0_1 - 1)⟩ : S43) )) (Reps.c2 (show Kd.M k43 _ _ _ (⟨wrap64 (a0_0 - 1), a0_1⟩ : S43) [.int .i64 (wrap64 (a0_0 - 1)), .int .i64 a0_1] from (k43_mkM _ _ _ (⟨wrap64 (a0_0 - 1), a0_1⟩ : S43) )) (Reps.c2 (show Kd.M k43 _ _ _ (⟨wrap64 (a0_0 + 1), a0_1⟩ : S43) [.int .i64 (wrap64 (a0_0 + 1)), .int .i64 a0_1] from (k43_mkM _ _ _ (⟨wrap64 (a0_0 + 1), a0_1⟩ : S43) )) (Reps.c2 (show Kd.M k43 _ _ _ (⟨wrap64 (a0_0 - 1), wrap64 (a0_1 + 1)⟩ : S43) [.int .i64 (wrap64 (a0_0 - 1)), .int .i64 (wrap64 (a0_1 + 1))] from (k43_mkM _ _ _ (⟨wrap64 (a0_0 - 1), wrap64 (a0_1 + 1)⟩ : S43) )) (Reps.c2 (show Kd.M k43 _ _ _ (⟨a0_0, wrap64 (a0_1 + 1)⟩ : S43) [.int .i64 a0_0, .int .i64 (wrap64 (a0_1 + 1))] from (k43_mkM _ _ _ (⟨a0_0, wrap64 (a0_1 + 1)⟩ : S43) )) (Reps.none _ _)))))))); intro v343 w4 ho5 hb hg_ hnew_; clear hg_ hnew_; (first | rw [← Ny342.out] at ho5 | (simp only [Int.reduceToNat] at ho5; rw [← Ny342.out] at ho5)); have n0_ := aM (Kd.R_lower (Kd.R_newB ho5 (g := gb341) (o := .cells #[.int .i64 a0_0, .int .i64 a0_1] 43 (0, 0)) (mB_ BK341.out)) (below_size (zs GE341.out))); have n1_ := aM (blk_below (g := gb341) (o := .cells #[.int .i64 a0_0, .int .i64 a0_1] 43 (0, 0)) (mB_ BK341.out) hb); have n2_ := aM (below_step (zs GE341.out) hb); clear BK341 HB; have HO344 := n0_; have BK341 := n1_; have HB := n2_; clear n0_ n1_ n2_; clear hb ho5))
 go_ret
 exact ⟨_, zw, zd1 HO344.out, zs GE341.out⟩
mutual
def impl_beside__impl_hexAround.l0 : Nat → List (S43) → List (S43) → List (S43) → Int → Int → Option ((List (S43)))
 | 0, _, _, _, _, _ => none
 | k + 1, x0, x5, x11, x12, x13 => if x13 < x12 then (if 0 ≤ x13 then (if x13 < (x11.length : Int) then ((impl_hexAround.f ((rd_T43 x11 x13).f0) ((rd_T43 x11 x13).f1)).bind fun t358 => (impl_beside__impl_hexAround.l1 k x0 x5 x11 x12 x13 t358 (t358.length : Int) 0)) else (none)) else (none)) else ((impl_Cell_67__impl_compareCells.f x5).bind fun t352 => ((impl_Cell_71.f t352).bind fun t353 => (some t353)))
def impl_beside__impl_hexAround.l1 : Nat → List (S43) → List (S43) → List (S43) → Int → Int → List (S43) → Int → Int → Option ((List (S43)))
 | 0, _, _, _, _, _, _, _, _ => none
 | k + 1, x0, x5, x11, x12, x13, x19, x20, x21 => if x21 < x20 then (if 0 ≤ x21 then (if x21 < (x19.length : Int) then ((impl_Cell_70.f k x0 ((rd_T43 x19 x21).f0) ((rd_T43 x19 x21).f1)).bind fun t363 => (if t363 = true then (impl_beside__impl_hexAround.l1 k x0 x5 x11 x12 x13 x19 x20 (wrap64 (x21 + 1))) else (if x5.length < 8796093022208 then (impl_beside__impl_hexAround.l1 k x0 (x5 ++ [(⟨(rd_T43 x19 x21).f0, (rd_T43 x19 x21).f1⟩ : S43)]) x11 x12 x13 x19 x20 (wrap64 (x21 + 1))) else (none)))) else (none)) else (none)) else (impl_beside__impl_hexAround.l0 k x0 x5 x11 x12 (wrap64 (x13 + 1)))
end
def impl_beside__impl_hexAround.f (k : Nat) (l0 : List (S43))  : Option ((List (S43))) := impl_beside__impl_hexAround.l0 k l0 (([] : List (S43))) l0 (l0.length : Int) 0
theorem impl_beside__impl_hexAround.calls (k : Nat) (A0 : Option Addr) (c0 : Nat) (l0 : List (S43))  (r : List (S43)) (w : World) (hr0 : Kd.C k43 w A0 l0.length l0) (hc0 : l0.length ≤ c0) (h : impl_beside__impl_hexAround.f k l0 = some r) :
  Calls Try.prog 62 #[.slice A0 l0.length c0, .func (.func 35) #[] #[]] w fun e w' => ∃ v0_ : Value, e = .returned (v0_) ∧ Kd.R k43 43 w' w.heap.size (fun _ => True) v0_ r ∧ Below w.heap.size w w' := by
 have hu43 := Try.underlying43
 have HR0 := aM hr0
 have HC0 := aM hc0
 clear hr0 hc0
 have HB := aM (Below.refl w.heap.size w)
 have H : (impl_beside__impl_hexAround.l0 k l0 (([] : List (S43))) l0 (l0.length : Int) 0) = some r := h
 clear h
 obtain ⟨y349, hy349⟩ : ∃ y_ : List (S43), y_ = (([] : List (S43))) := ⟨_, rfl⟩
 replace H : (impl_beside__impl_hexAround.l0 k l0 y349 l0 (l0.length : Int) 0) = some r := zy H hy349
 have Ny349 := aM hy349
 clear hy349
 have H' := aM H
 clear H
 go_enter Try.func62, Try.ntmps62
 go_wp2_with (first | ((with_reducible refine gate_dst (N := 10) rfl ?_); refine Kd.R_lit k43 _ 43 ?hg (N := 10) ?hd (xs := ([] : List (S43))) (inner := []) (ok := fun _ => True) (okp := fun _ => True) ?hr ?hp (fun _ hk => hk) trivial (Below.refl _ _) (Nat.le_refl _) (by simp) ?_; (case hd => rfl); (case hg => rfl); (case hr => first | (go_simp; done) | (go_simp; rfl)); (case hp => exact (Reps.none _ _)); intro v350 w3 ho4 hb hg_ hnew_; clear hg_ hnew_; (first | rw [← Ny349.out] at ho4 | (simp only [Int.reduceToNat] at ho4; rw [← Ny349.out] at ho4)); have n0_ := aM (Kd.R_lower ho4 (below_size zb)); have n1_ := aM (below_step zb hb); clear HB; have HO351 := n0_; have HB := n1_; clear n0_ n1_; clear hb ho4))
 go_loopg [5, 13] k (fun kq v5 v13 w' => ∃ (x5_1 : List (S43)) (x13_1 : Int), v13 = .int .i64 x13_1 ∧ Aside0 (impl_beside__impl_hexAround.l0 kq l0 x5_1 l0 (l0.length : Int) x13_1 = some r) ∧ Aside0 (kq ≤ k) ∧ Aside0 (Kd.R k43 43 w' w.heap.size (fun _ => True) v5 x5_1) ∧ Aside0 (Below w.heap.size w w'))
 case atStart => exact ⟨(y349), (0), zr, H', ⟨Nat.le_refl _⟩, ⟨mR_ HO351.out⟩, ⟨zb⟩⟩
 case round =>
  clear H'
  try clear p2
  obtain ⟨x5_1, x13_1, rfl, HA, HK1, HO_5, HB⟩ := hrel
  cases gk with
  | zero => exact absurd HA.out (by simp [impl_beside__impl_hexAround.l0])
  | succ k1 =>
   have H := HA.out
   clear HA
   simp only [impl_beside__impl_hexAround.l0] at H
   by_cases c5 : x13_1 < (l0.length : Int)
   rotate_left
   ·rw [if_neg c5] at H
    have c5b0 : decide (x13_1 < (l0.length : Int)) = false := decide_eq_false c5
    clear c5
    replace H := Option.bind_eq_some_iff.mp H
    obtain ⟨t352, A290, H⟩ := H
    replace H : ((impl_Cell_71.f t352).bind fun t353 => (some t353)) = some r := H
    have A29 := aM A290
    clear A290
    replace H := Option.bind_eq_some_iff.mp H
    obtain ⟨t353, A300, H⟩ := H
    replace H : (some t353) = some r := H
    have A30 := aM A300
    clear A300
    obtain rfl := Option.some.inj H
    obtain ⟨Ao31, co31, eo31⟩ := Kd.R_slice HO_5.out
    subst eo31
    go_wp2_with (first | ((with_reducible refine gate_callee (f := 67) rfl ?_); refine goesL_ (some 36) rfl rfl Try.func67 (by kernel_rfl) rfl #[.slice Ao31 x5_1.length co31, .func (.func 59) #[] #[]] rfl zm ?_; (with_reducible refine (impl_Cell_67__impl_compareCells.calls (fun k_ => some k_ = (.slice Ao31 x5_1.length co31 : Value).ownBlock) (.slice Ao31 x5_1.length co31) x5_1  t352 w _ ?side1 ?side2 A29.out).mono ?_); (case side1 => repeat (first | (with_reducible first | exact HB.out | apply below_alloc | apply pw_below_drewN | apply below_drew1) | exact HB.out)); (case side2 => exact Kd.R_tight rfl HO_5.out); rintro e w32 ⟨rfl, hy0, hb, hkp⟩; refine ⟨_, rfl, ?_⟩; have n0_ := aM (Kd.R_reok rfl hy0 (fun k_ e_ => HO_5.out.1 k_ e_)); have n1_ := aM (hb); clear HO_5 HB; have HO_5 := n0_; have HB := n1_; clear n0_ n1_; (try clear hb); (try clear hkp); (try clear hy0)) | ((with_reducible refine gate_callee (f := 71) rfl ?_); refine goesL_ (some 38) rfl rfl Try.func71 (by kernel_rfl) rfl #[.slice Ao31 x5_1.length co31] rfl zm ?_; (with_reducible refine (impl_Cell_71.calls (fun k_ => some k_ = (.slice Ao31 x5_1.length co31 : Value).ownBlock) (.slice Ao31 x5_1.length co31) t352 t353 w _ ?side1 ?side2 A30.out).mono ?_); (case side1 => repeat (first | (with_reducible first | exact HB.out | apply below_alloc | apply pw_below_drewN | apply below_drew1) | exact HB.out)); (case side2 => exact Kd.R_tight rfl HO_5.out); rintro e w33 ⟨v354, rfl, ho0, hb, hkp⟩; refine ⟨_, rfl, ?_⟩; have n0_ := aM (Kd.R_mono (ok' := fun k_ => True) ho0 (fun k_ hk_ => trivial)); have n1_ := aM (hb); clear HB HO_5; have HO355 := n0_; have HB := n1_; clear n0_ n1_; (try clear hb); (try clear hkp); (try clear ho0)))
    go_ret
    exact ⟨_, zw, mR_ HO355.out, zb⟩
   rw [if_pos c5] at H
   have c5b0 : decide (x13_1 < (l0.length : Int)) = true := decide_eq_true c5
   clear c5
   by_cases c6 : 0 ≤ x13_1
   rotate_left
   ·rw [if_neg c6] at H
    exact absurd H (by simp)
   rw [if_pos c6] at H
   have c6b0 : decide (0 ≤ x13_1) = true := decide_eq_true c6
   clear c6
   by_cases c7 : x13_1 < (l0.length : Int)
   rotate_left
   ·rw [if_neg c7] at H
    exact absurd H (by simp)
   rw [if_pos c7] at H
   have c7b0 : decide (x13_1 < (l0.length : Int)) = true := decide_eq_true c7
   clear c7
   replace H := Option.bind_eq_some_iff.mp H
   obtain ⟨t358, A80, H⟩ := H
   replace H : (impl_beside__impl_hexAround.l1 k1 l0 x5_1 l0 (l0.length : Int) x13_1 t358 (t358.length : Int) 0) = some r := H
   have A8 := aM A80
   clear A80
   have H' := aM H
   clear H
   have p356 : 0 ≤ (x13_1 : Int) := of_decide_eq_true za
   have q356 : x13_1 < (l0.length : Int) := of_decide_eq_true za
   obtain ⟨ad356, e356, hx356_0, hx356_1⟩ := at_T43 HR0.out x13_1 p356 q356
   cases e356
   replace hx356_0 := zk HB.out hx356_0
   replace hx356_1 := zk HB.out hx356_1
   replace p356 := eq_true p356
   replace q356 := eq_true q356
   go_wp2_with (first | ((with_reducible refine gate_dst (N := 7) rfl ?_); refine zx 7 #[.int .i64 0, .int .i64 0] 43 ?_; intro gb357 hg w9 hbox hb; have n0_ := aM (Kd.R_below (Kd.R_elderB (mR_ HO_5.out) gb357 (Nat.le_of_eq hg.symm)) hb); have n1_ := aM (below_step zb hb); have n2_ := aM (hbox); have n3_ := aM ((ze : w.heap.size ≤ gb357)); have n4_ := aM ((ze : w.heap.size ≤ gb357)); clear HO_5 HB; have HO_5 := n0_; have HB := n1_; have BK357 := n2_; have GW357 := n3_; have GE357 := n4_; clear n0_ n1_ n2_ n3_ n4_ hb hbox hg; have hcz10_0 : w9.cell? ⟨gb357, 0, none⟩ = some (.int .i64 0) := (blk_cell BK357.out 0).trans rfl; have hcz10_1 : w9.cell? ⟨gb357, 1, none⟩ = some (.int .i64 0) := (blk_cell BK357.out 1).trans rfl; have hfz10_0 := blk_frozen BK357.out 0; have hfz10_1 := blk_frozen BK357.out 1) | (go_at_call 35; (with_reducible refine (impl_hexAround.calls ((rd_T43 l0 x13_1).f0) ((rd_T43 l0 x13_1).f1) t358 _ A8.out).mono ?_); rintro e w11 ⟨v359, rfl, ho0, hb⟩; have n0_ := aM (Kd.R_elder' (by (with_reducible repeat (first | apply Kd.R_alloc | apply Kd.R_drewN | apply Kd.R_drew)); exact (Kd.R_mono (Kd.R_far (p := ⟨gb357, 1, none⟩) (Kd.R_far (p := ⟨gb357, 0, none⟩) (Kd.R_mono HO_5.out (fun k_ hk => (⟨hk, hk.2⟩ : _ ∧ k_ ≠ gb357))) (fun _ hk => hk.2) (.int .i64 ((rd_T43 l0 x13_1).f0))) (fun _ hk => hk.2) (.int .i64 ((rd_T43 l0 x13_1).f1))) (fun _ h_ => h_.1))) (Kd.R_base ho0) hb); have n1_ := aM (Kd.R_lower (Kd.R_newB (Kd.R_new' ho0 (Kd.R_lt (by (with_reducible repeat (first | apply Kd.R_alloc | apply Kd.R_drewN | apply Kd.R_drew)); exact (Kd.R_mono (Kd.R_far (p := ⟨gb357, 1, none⟩) (Kd.R_far (p := ⟨gb357, 0, none⟩) (Kd.R_mono HO_5.out (fun k_ hk => (⟨hk, hk.2⟩ : _ ∧ k_ ≠ gb357))) (fun _ hk => hk.2) (.int .i64 ((rd_T43 l0 x13_1).f0))) (fun _ hk => hk.2) (.int .i64 ((rd_T43 l0 x13_1).f1))) (fun _ h_ => h_.1))))) (g := gb357) (o := .cells #[.int .i64 ((rd_T43 l0 x13_1).f0), .int .i64 ((rd_T43 l0 x13_1).f1)] 43 (0, 0)) (by (with_reducible repeat (first | refine blk_drewN ?_ _ | refine blk_drew ?_ | refine blk_alloc ?_ _)); refine blk_put (cs := #[.int .i64 ((rd_T43 l0 x13_1).f0), .int .i64 0]) ?_ 1 _ rfl; (with_reducible repeat (first | refine blk_drewN ?_ _ | refine blk_drew ?_ | refine blk_alloc ?_ _)); refine blk_put (cs := #[.int .i64 0, .int .i64 0]) ?_ 0 _ rfl; (with_reducible repeat (first | refine blk_drewN ?_ _ | refine blk_drew ?_ | refine blk_alloc ?_ _)); exact BK357.out)) (below_size (zs GE357.out))); have n2_ := aM (blk_below (g := gb357) (o := .cells #[.int .i64 ((rd_T43 l0 x13_1).f0), .int .i64 ((rd_T43 l0 x13_1).f1)] 43 (0, 0)) (by (with_reducible repeat (first | refine blk_drewN ?_ _ | refine blk_drew ?_ | refine blk_alloc ?_ _)); refine blk_put (cs := #[.int .i64 ((rd_T43 l0 x13_1).f0), .int .i64 0]) ?_ 1 _ rfl; (with_reducible repeat (first | refine blk_drewN ?_ _ | refine blk_drew ?_ | refine blk_alloc ?_ _)); refine blk_put (cs := #[.int .i64 0, .int .i64 0]) ?_ 0 _ rfl; (with_reducible repeat (first | refine blk_drewN ?_ _ | refine blk_drew ?_ | refine blk_alloc ?_ _)); exact BK357.out) hb); have n3_ := aM (below_step (zs GE357.out) hb); clear HO_5 BK357 HB; have HO_5 := n0_; have HO360 := n1_; have BK357 := n2_; have HB := n3_; clear n0_ n1_ n2_ n3_; (try clear hb); (try clear hb2); (try clear hk); (try clear hi); (try clear ho0); obtain ⟨Ao12, co12, eo12⟩ := Kd.R_slice HO360.out; subst eo12))
   go_loopg [5, 21] k1 (fun kq v5 v21 w' => ∃ (x5_2 : List (S43)) (x21_2 : Int), v21 = .int .i64 x21_2 ∧ Aside0 (impl_beside__impl_hexAround.l1 kq l0 x5_2 l0 (l0.length : Int) x13_1 t358 (t358.length : Int) x21_2 = some r) ∧ Aside0 (kq ≤ k1) ∧ Aside0 (Kd.R k43 43 w' w.heap.size (fun k_ => some k_ ≠ ((.slice Ao12 t358.length co12) : Value).ownBlock ∧ k_ ≠ gb357) v5 x5_2) ∧ Aside0 (Kd.R k43 43 w' w.heap.size (fun k_ => some k_ ≠ (v5 : Value).ownBlock ∧ k_ ≠ gb357) (.slice Ao12 t358.length co12) t358) ∧ Aside0 (w'.heap[gb357]? = some (.cells #[.int .i64 ((rd_T43 l0 x13_1).f0), .int .i64 ((rd_T43 l0 x13_1).f1)] 43 (0, 0))) ∧ Aside0 (Below w.heap.size w w'))
   case atStart => exact ⟨(x5_1), (0), zr, H', ⟨Nat.le_refl _⟩, ⟨zd11 HO_5.out⟩, ⟨zd12 HO360.out⟩, ⟨mB_ BK357.out⟩, ⟨zs GE357.out⟩⟩
   case round =>
    clear H'
    try clear p2
    try clear p3
    try clear q3
    try clear hx3
    try clear c5
    try clear c5b0
    try clear c6
    try clear c6b0
    try clear c7
    try clear c7b0
    try clear hcz10_0
    try clear hcz10_1
    try clear hfz10_0
    try clear hfz10_1
    try clear hx356_0
    try clear hx356_1
    try clear p2
    try clear p356
    try clear q356
    obtain ⟨x5_2, x21_2, rfl, HA, HK2, HO_5, HO_19, BK357, HB⟩ := hrel
    cases gk with
    | zero => exact absurd HA.out (by simp [impl_beside__impl_hexAround.l1])
    | succ k2 =>
     have H := HA.out
     clear HA
     simp only [impl_beside__impl_hexAround.l1] at H
     by_cases c13 : x21_2 < (t358.length : Int)
     rotate_left
     ·rw [if_neg c13] at H
      have c13b0 : decide (x21_2 < (t358.length : Int)) = false := decide_eq_false c13
      clear c13
      have H' := aM H
      clear H
      go_wp2
      go_roundg k2
      case measure => have := HK1.out; have := HK2.out; omega
      case rel => exact ⟨(x5_2), (wrap64 (x13_1 + 1)), zr, H', ⟨by have := HK1.out; have := HK2.out; omega⟩, ⟨zd1 HO_5.out⟩, ⟨zs GE357.out⟩⟩
     rw [if_pos c13] at H
     have c13b0 : decide (x21_2 < (t358.length : Int)) = true := decide_eq_true c13
     clear c13
     by_cases c14 : 0 ≤ x21_2
     rotate_left
     ·rw [if_neg c14] at H
      exact absurd H (by simp)
     rw [if_pos c14] at H
     have c14b0 : decide (0 ≤ x21_2) = true := decide_eq_true c14
     clear c14
     by_cases c15 : x21_2 < (t358.length : Int)
     rotate_left
     ·rw [if_neg c15] at H
      exact absurd H (by simp)
     rw [if_pos c15] at H
     have c15b0 : decide (x21_2 < (t358.length : Int)) = true := decide_eq_true c15
     clear c15
     replace H := Option.bind_eq_some_iff.mp H
     obtain ⟨t363, A160, H⟩ := H
     replace H : (if t363 = true then (impl_beside__impl_hexAround.l1 k2 l0 x5_2 l0 (l0.length : Int) x13_1 t358 (t358.length : Int) (wrap64 (x21_2 + 1))) else (if x5_2.length < 8796093022208 then (impl_beside__impl_hexAround.l1 k2 l0 (x5_2 ++ [(⟨(rd_T43 t358 x21_2).f0, (rd_T43 t358 x21_2).f1⟩ : S43)]) l0 (l0.length : Int) x13_1 t358 (t358.length : Int) (wrap64 (x21_2 + 1))) else (none))) = some r := H
     have A16 := aM A160
     clear A160
     by_cases c17 : t363 = true
     ·subst c17
      have H1 : (impl_beside__impl_hexAround.l1 k2 l0 x5_2 l0 (l0.length : Int) x13_1 t358 (t358.length : Int) (wrap64 (x21_2 + 1))) = some r := by rw [if_pos rfl] at H; exact H
      clear H
      have H := H1
      clear H1
      have H' := aM H
      clear H
      have p361 : 0 ≤ (x21_2 : Int) := of_decide_eq_true za
      have q361 : x21_2 < (t358.length : Int) := of_decide_eq_true za
      obtain ⟨ad361, e361, hx361_0, hx361_1⟩ := at_T43 (Kd.R_reads' HO_19.out).2.2 x21_2 p361 q361
      cases e361
      replace p361 := eq_true p361
      replace q361 := eq_true q361
      go_wp2_with (first | ((with_reducible refine gate_dst (N := 9) rfl ?_); refine zx 9 #[.int .i64 0, .int .i64 0] 43 ?_; intro gb362 hg w18 hbox hb; have n0_ := aM (Kd.R_below (Kd.R_elderB (mR_ HO_5.out) gb362 (Nat.le_of_eq hg.symm)) hb); have n1_ := aM (Kd.R_below (Kd.R_elderB (mR_ HO_19.out) gb362 (Nat.le_of_eq hg.symm)) hb); have n2_ := aM (blk_below (g := gb357) (o := .cells #[.int .i64 ((rd_T43 l0 x13_1).f0), .int .i64 ((rd_T43 l0 x13_1).f1)] 43 (0, 0)) (mB_ BK357.out) hb); have n3_ := aM (below_step (zs GE357.out) hb); have n4_ := aM (hbox); have n5_ := aM ((zf GE357.out : w.heap.size ≤ gb362)); have n6_ := aM ((zf GE357.out : w.heap.size ≤ gb362)); have n7_ := aM ((zl BK357.out : gb357 ≠ gb362)); have n8_ := aM ((zn BK357.out : gb362 ≠ gb357)); clear HO_5 HO_19 BK357 HB; have HO_5 := n0_; have HO_19 := n1_; have BK357 := n2_; have HB := n3_; have BK362 := n4_; have GW362 := n5_; have GE362 := n6_; have NB357_362 := n7_; have NB362_357 := n8_; clear n0_ n1_ n2_ n3_ n4_ n5_ n6_ n7_ n8_ hb hbox hg; have hnb19 := NB362_357.out; have hnc19 := NB357_362.out; have hcz20_0 : w18.cell? ⟨gb362, 0, none⟩ = some (.int .i64 0) := (blk_cell BK362.out 0).trans rfl; have hcz20_1 : w18.cell? ⟨gb362, 1, none⟩ = some (.int .i64 0) := (blk_cell BK362.out 1).trans rfl; have hfz20_0 := blk_frozen BK362.out 0; have hfz20_1 := blk_frozen BK362.out 1) | ((with_reducible refine gate_callee (f := 70) rfl ?_); refine goesL_ (some 27) rfl rfl Try.func70 (by kernel_rfl) rfl #[.slice (some ad356) l0.length c0, .agg #[.int .i64 ((rd_T43 t358 x21_2).f0), .int .i64 ((rd_T43 t358 x21_2).f1)]] rfl zm ?_; (with_reducible refine (impl_Cell_70.calls k2 _ _ l0 ((rd_T43 t358 x21_2).f0) ((rd_T43 t358 x21_2).f1) true _ ?side1 ?side2 A16.out).mono ?_); (case side1 => exact Kd.C_below HR0.out (zt GE357.out GE362.out)); (case side2 => exact HC0.out); rintro e w21 ⟨rfl, hb⟩; refine ⟨_, rfl, ?_⟩; have n0_ := aM (Kd.R_below (by (with_reducible repeat (first | apply Kd.R_alloc | apply Kd.R_drewN | apply Kd.R_drew)); exact (Kd.R_mono (Kd.R_far (p := ⟨gb362, 1, none⟩) (Kd.R_far (p := ⟨gb362, 0, none⟩) (Kd.R_mono HO_5.out (fun k_ hk => (⟨hk, hk.2⟩ : _ ∧ k_ ≠ gb362))) (fun _ hk => hk.2) (.int .i64 ((rd_T43 t358 x21_2).f0))) (fun _ hk => hk.2) (.int .i64 ((rd_T43 t358 x21_2).f1))) (fun _ h_ => h_.1))) hb); have n1_ := aM (Kd.R_below (by (with_reducible repeat (first | apply Kd.R_alloc | apply Kd.R_drewN | apply Kd.R_drew)); exact (Kd.R_mono (Kd.R_far (p := ⟨gb362, 1, none⟩) (Kd.R_far (p := ⟨gb362, 0, none⟩) (Kd.R_mono HO_19.out (fun k_ hk => (⟨hk, hk.2⟩ : _ ∧ k_ ≠ gb362))) (fun _ hk => hk.2) (.int .i64 ((rd_T43 t358 x21_2).f0))) (fun _ hk => hk.2) (.int .i64 ((rd_T43 t358 x21_2).f1))) (fun _ h_ => h_.1))) hb); have n2_ := aM (blk_below (g := gb357) (o := .cells #[.int .i64 ((rd_T43 l0 x13_1).f0), .int .i64 ((rd_T43 l0 x13_1).f1)] 43 (0, 0)) (by (with_reducible repeat (first | refine blk_drewN ?_ _ | refine blk_drew ?_ | refine blk_alloc ?_ _)); refine blk_far ?_ NB357_362.out _; (with_reducible repeat (first | refine blk_drewN ?_ _ | refine blk_drew ?_ | refine blk_alloc ?_ _)); refine blk_far ?_ NB357_362.out _; (with_reducible repeat (first | refine blk_drewN ?_ _ | refine blk_drew ?_ | refine blk_alloc ?_ _)); exact BK357.out) hb); have n3_ := aM (blk_below (g := gb362) (o := .cells #[.int .i64 ((rd_T43 t358 x21_2).f0), .int .i64 ((rd_T43 t358 x21_2).f1)] 43 (0, 0)) (by (with_reducible repeat (first | refine blk_drewN ?_ _ | refine blk_drew ?_ | refine blk_alloc ?_ _)); refine blk_put (cs := #[.int .i64 ((rd_T43 t358 x21_2).f0), .int .i64 0]) ?_ 1 _ rfl; (with_reducible repeat (first | refine blk_drewN ?_ _ | refine blk_drew ?_ | refine blk_alloc ?_ _)); refine blk_put (cs := #[.int .i64 0, .int .i64 0]) ?_ 0 _ rfl; (with_reducible repeat (first | refine blk_drewN ?_ _ | refine blk_drew ?_ | refine blk_alloc ?_ _)); exact BK362.out) hb); have n4_ := aM (below_step (zt GE357.out GE362.out) hb); clear HO_5 HO_19 BK357 BK362 HB; have HO_5 := n0_; have HO_19 := n1_; have BK357 := n2_; have BK362 := n3_; have HB := n4_; clear n0_ n1_ n2_ n3_ n4_; (try clear hb); (try clear hb2); (try clear hk); (try clear hi)))
      go_roundg k2
      case measure => have := HK1.out; have := HK2.out; omega
      case rel => exact ⟨(x5_2), (wrap64 (x21_2 + 1)), zr, H', ⟨by have := HK1.out; have := HK2.out; omega⟩, ⟨zd13 HO_5.out⟩, ⟨zd13 HO_19.out⟩, ⟨mB_ BK357.out⟩, ⟨zt GE357.out GE362.out⟩⟩
     replace c17 := Bool.eq_false_iff.mpr c17
     subst c17
     have H1 : (if x5_2.length < 8796093022208 then (impl_beside__impl_hexAround.l1 k2 l0 (x5_2 ++ [(⟨(rd_T43 t358 x21_2).f0, (rd_T43 t358 x21_2).f1⟩ : S43)]) l0 (l0.length : Int) x13_1 t358 (t358.length : Int) (wrap64 (x21_2 + 1))) else (none)) = some r := by rw [if_neg (show ¬ (false = true) by decide)] at H; exact H
     clear H
     have H := H1
     clear H1
     by_cases c22 : x5_2.length < 8796093022208
     rotate_left
     ·rw [if_neg c22] at H
      exact absurd H (by simp)
     rw [if_pos c22] at H
     have LMc22 := aM c22
     clear c22
     obtain ⟨y364, hy364⟩ : ∃ y_ : List (S43), y_ = (x5_2 ++ [(⟨(rd_T43 t358 x21_2).f0, (rd_T43 t358 x21_2).f1⟩ : S43)]) := ⟨_, rfl⟩
     replace H : (impl_beside__impl_hexAround.l1 k2 l0 y364 l0 (l0.length : Int) x13_1 t358 (t358.length : Int) (wrap64 (x21_2 + 1))) = some r := zy H hy364
     have Ny364 := aM hy364
     clear hy364
     have H' := aM H
     clear H
     have p361 : 0 ≤ (x21_2 : Int) := of_decide_eq_true za
     have q361 : x21_2 < (t358.length : Int) := of_decide_eq_true za
     obtain ⟨ad361, e361, hx361_0, hx361_1⟩ := at_T43 (Kd.R_reads' HO_19.out).2.2 x21_2 p361 q361
     cases e361
     replace p361 := eq_true p361
     replace q361 := eq_true q361
     go_wp2_with (first | ((with_reducible refine gate_dst (N := 9) rfl ?_); refine zx 9 #[.int .i64 0, .int .i64 0] 43 ?_; intro gb362 hg w23 hbox hb; have n0_ := aM (Kd.R_below (Kd.R_elderB (mR_ HO_5.out) gb362 (Nat.le_of_eq hg.symm)) hb); have n1_ := aM (Kd.R_below (Kd.R_elderB (mR_ HO_19.out) gb362 (Nat.le_of_eq hg.symm)) hb); have n2_ := aM (blk_below (g := gb357) (o := .cells #[.int .i64 ((rd_T43 l0 x13_1).f0), .int .i64 ((rd_T43 l0 x13_1).f1)] 43 (0, 0)) (mB_ BK357.out) hb); have n3_ := aM (below_step (zs GE357.out) hb); have n4_ := aM (hbox); have n5_ := aM ((zf GE357.out : w.heap.size ≤ gb362)); have n6_ := aM ((zf GE357.out : w.heap.size ≤ gb362)); have n7_ := aM ((zl BK357.out : gb357 ≠ gb362)); have n8_ := aM ((zn BK357.out : gb362 ≠ gb357)); clear HO_5 HO_19 BK357 HB; have HO_5 := n0_; have HO_19 := n1_; have BK357 := n2_; have HB := n3_; have BK362 := n4_; have GW362 := n5_; have GE362 := n6_; have NB357_362 := n7_; have NB362_357 := n8_; clear n0_ n1_ n2_ n3_ n4_ n5_ n6_ n7_ n8_ hb hbox hg; have hnb24 := NB362_357.out; have hnc24 := NB357_362.out; have hcz25_0 : w23.cell? ⟨gb362, 0, none⟩ = some (.int .i64 0) := (blk_cell BK362.out 0).trans rfl; have hcz25_1 : w23.cell? ⟨gb362, 1, none⟩ = some (.int .i64 0) := (blk_cell BK362.out 1).trans rfl; have hfz25_0 := blk_frozen BK362.out 0; have hfz25_1 := blk_frozen BK362.out 1) | ((with_reducible refine gate_callee (f := 70) rfl ?_); refine goesL_ (some 27) rfl rfl Try.func70 (by kernel_rfl) rfl #[.slice (some ad356) l0.length c0, .agg #[.int .i64 ((rd_T43 t358 x21_2).f0), .int .i64 ((rd_T43 t358 x21_2).f1)]] rfl zm ?_; (with_reducible refine (impl_Cell_70.calls k2 _ _ l0 ((rd_T43 t358 x21_2).f0) ((rd_T43 t358 x21_2).f1) false _ ?side1 ?side2 A16.out).mono ?_); (case side1 => exact Kd.C_below HR0.out (zt GE357.out GE362.out)); (case side2 => exact HC0.out); rintro e w26 ⟨rfl, hb⟩; refine ⟨_, rfl, ?_⟩; have n0_ := aM (Kd.R_below (by (with_reducible repeat (first | apply Kd.R_alloc | apply Kd.R_drewN | apply Kd.R_drew)); exact (Kd.R_mono (Kd.R_far (p := ⟨gb362, 1, none⟩) (Kd.R_far (p := ⟨gb362, 0, none⟩) (Kd.R_mono HO_5.out (fun k_ hk => (⟨hk, hk.2⟩ : _ ∧ k_ ≠ gb362))) (fun _ hk => hk.2) (.int .i64 ((rd_T43 t358 x21_2).f0))) (fun _ hk => hk.2) (.int .i64 ((rd_T43 t358 x21_2).f1))) (fun _ h_ => h_.1))) hb); have n1_ := aM (Kd.R_below (by (with_reducible repeat (first | apply Kd.R_alloc | apply Kd.R_drewN | apply Kd.R_drew)); exact (Kd.R_mono (Kd.R_far (p := ⟨gb362, 1, none⟩) (Kd.R_far (p := ⟨gb362, 0, none⟩) (Kd.R_mono HO_19.out (fun k_ hk => (⟨hk, hk.2⟩ : _ ∧ k_ ≠ gb362))) (fun _ hk => hk.2) (.int .i64 ((rd_T43 t358 x21_2).f0))) (fun _ hk => hk.2) (.int .i64 ((rd_T43 t358 x21_2).f1))) (fun _ h_ => h_.1))) hb); have n2_ := aM (blk_below (g := gb357) (o := .cells #[.int .i64 ((rd_T43 l0 x13_1).f0), .int .i64 ((rd_T43 l0 x13_1).f1)] 43 (0, 0)) (by (with_reducible repeat (first | refine blk_drewN ?_ _ | refine blk_drew ?_ | refine blk_alloc ?_ _)); refine blk_far ?_ NB357_362.out _; (with_reducible repeat (first | refine blk_drewN ?_ _ | refine blk_drew ?_ | refine blk_alloc ?_ _)); refine blk_far ?_ NB357_362.out _; (with_reducible repeat (first | refine blk_drewN ?_ _ | refine blk_drew ?_ | refine blk_alloc ?_ _)); exact BK357.out) hb); have n3_ := aM (blk_below (g := gb362) (o := .cells #[.int .i64 ((rd_T43 t358 x21_2).f0), .int .i64 ((rd_T43 t358 x21_2).f1)] 43 (0, 0)) (by (with_reducible repeat (first | refine blk_drewN ?_ _ | refine blk_drew ?_ | refine blk_alloc ?_ _)); refine blk_put (cs := #[.int .i64 ((rd_T43 t358 x21_2).f0), .int .i64 0]) ?_ 1 _ rfl; (with_reducible repeat (first | refine blk_drewN ?_ _ | refine blk_drew ?_ | refine blk_alloc ?_ _)); refine blk_put (cs := #[.int .i64 0, .int .i64 0]) ?_ 0 _ rfl; (with_reducible repeat (first | refine blk_drewN ?_ _ | refine blk_drew ?_ | refine blk_alloc ?_ _)); exact BK362.out) hb); have n4_ := aM (below_step (zt GE357.out GE362.out) hb); clear HO_5 HO_19 BK357 BK362 HB; have HO_5 := n0_; have HO_19 := n1_; have BK357 := n2_; have BK362 := n3_; have HB := n4_; clear n0_ n1_ n2_ n3_ n4_; (try clear hb); (try clear hb2); (try clear hk); (try clear hi); have hcz27_0 : w26.cell? ⟨gb362, 0, none⟩ = some (.int .i64 ((rd_T43 t358 x21_2).f0)) := (blk_cell BK362.out 0).trans rfl; have hcz27_1 : w26.cell? ⟨gb362, 1, none⟩ = some (.int .i64 ((rd_T43 t358 x21_2).f1)) := (blk_cell BK362.out 1).trans rfl; have hfz27_0 := blk_frozen BK362.out 0; have hfz27_1 := blk_frozen BK362.out 1) | ((with_reducible refine gate_builtin (b := .append) (xs := #[.tmp 29, .tmp 31]) rfl ?_); at_builtin; refine Kd.R_append k43 (w0 := w) w.heap.size rfl (.tmp 29) (.tmp 31) 36 43 (.agg #[(.int .i64 0), (.int .i64 0)]) 16 rfl Try.underlying36 info43 rfl (by decide) (by omega) u5 x5_2 (⟨(rd_T43 t358 x21_2).f0, (rd_T43 t358 x21_2).f1⟩ : S43) [.int .i64 ((rd_T43 t358 x21_2).f0), .int .i64 ((rd_T43 t358 x21_2).f1)] (fun k_ => some k_ ≠ (.slice (some ad361) t358.length co12 : Value).ownBlock ∧ k_ ≠ gb357 ∧ k_ ≠ gb362) (fun _ => False) rfl rfl ?aP (fun _ hk => hk.elim) ?aF ?aO ?aB ?aS ?aL ?_; (case aP => exact k43_mkM _ _ _ (⟨(rd_T43 t358 x21_2).f0, (rd_T43 t358 x21_2).f1⟩ : S43)); (case aB => exact (zt GE357.out GE362.out)); (case aF => exact (fun k_ hk => ⟨Kd.fresh' (Kd.R_lt (mR_ HO_19.out)) k_ hk, Kd.freshB (g := gb357) (o := .cells #[.int .i64 ((rd_T43 l0 x13_1).f0), .int .i64 ((rd_T43 l0 x13_1).f1)] 43 (0, 0)) (mB_ BK357.out) k_ hk, Kd.freshB (g := gb362) (o := .cells #[.int .i64 ((rd_T43 t358 x21_2).f0), .int .i64 ((rd_T43 t358 x21_2).f1)] 43 (0, 0)) (mB_ BK362.out) k_ hk⟩)); (case aO => exact (zd14 HO_5.out)); (case aS => exact (below_size (zt GE357.out GE362.out))); (case aL => have := LMc22.out; omega); intro v365 w28 ho hb hg hat; rw [← Ny364.out] at ho; have n0_ := aM (Kd.R_after (ok := (fun k_ => k_ ≠ gb357 ∧ k_ ≠ gb362)) (zd15 HO_19.out) hg hat); have n1_ := aM (blk_grown (g := gb357) (o := .cells #[.int .i64 ((rd_T43 l0 x13_1).f0), .int .i64 ((rd_T43 l0 x13_1).f1)] 43 (0, 0)) (mB_ BK357.out) hg (Kd.R_away HO_5.out (fun _ hk => hk.1.2))); have n2_ := aM (blk_grown (g := gb362) (o := .cells #[.int .i64 ((rd_T43 t358 x21_2).f0), .int .i64 ((rd_T43 t358 x21_2).f1)] 43 (0, 0)) (mB_ BK362.out) hg (Kd.R_away HO_5.out (fun _ hk => hk.2))); have n3_ := aM (hb); have n4_ := aM (ho); clear HO_19 BK357 BK362 HB HO_5; have HO_19 := n0_; have BK357 := n1_; have BK362 := n2_; have HB := n3_; have HO366 := n4_; clear n0_ n1_ n2_ n3_ n4_; clear ho hb hg hat))
     go_roundg k2
     case measure => have := HK1.out; have := HK2.out; omega
     case rel => exact ⟨(y364), (wrap64 (x21_2 + 1)), zr, H', ⟨by have := HK1.out; have := HK2.out; omega⟩, ⟨zd16 HO366.out⟩, ⟨zd17 HO_19.out⟩, ⟨mB_ BK357.out⟩, ⟨zt GE357.out GE362.out⟩⟩
def impl_grown__impl_hexAround_impl_normal.l0 : Nat → List (S43) → List (List (S43)) → List (S43) → Int → Int → Option ((List (List (S43))))
 | 0, _, _, _, _, _ => none
 | k + 1, x0, x7, x13, x14, x15 => if x15 < x14 then (if 0 ≤ x15 then (if x15 < (x13.length : Int) then ((impl_Cell_63.f x0).bind fun t375 => ((some (([(⟨(rd_T43 x13 x15).f0, (rd_T43 x13 x15).f1⟩ : S43)] : List (S43)) : List (S43))).bind fun y378 => (if t375.length + y378.length < 8796093022208 then ((impl_sorted.f (t375 ++ y378)).bind fun t384 => ((impl_normal.f k t384).bind fun t387 => ((some (([t387] : List (List (S43))) : List (List (S43)))).bind fun y390 => (if x7.length + y390.length < 5864062014805 then (impl_grown__impl_hexAround_impl_normal.l0 k x0 (x7 ++ y390) x13 x14 (wrap64 (x15 + 1))) else (none))))) else (none)))) else (none)) else (none)) else ((impl_tidyShapes.f x7).bind fun t396 => (some t396))
def impl_grown__impl_hexAround_impl_normal.f (k : Nat) (l0 : List (S43))   : Option ((List (List (S43)))) := (impl_beside__impl_hexAround.f k l0).bind fun t370 => (impl_grown__impl_hexAround_impl_normal.l0 k l0 (([] : List (List (S43)))) t370 (t370.length : Int) 0)
def impl_grown__impl_hexAround_impl_normal.T5 : Bool × List (List Nat × List Nat) := (true, [([], []), ([], []), ([], []), ([2], [2]), ([], []), ([4], [4]), ([3, 5, 3], [3, 5]), ([6, 6], [6]), ([1, 7, 7], [1, 7]), ([8], [8]), ([0, 9, 8], [0, 9]), ([10, 10, 0, 1, 2, 3, 4, 5, 6, 7, 8, 9, 10], [0, 10])])
def impl_grown__impl_hexAround_impl_normal.B5 : List Nat := [0, 0, 0, 4, 0, 16, 60, 124, 254, 510, 1023, 2047]
theorem impl_grown__impl_hexAround_impl_normal.tab5 : rtab .any (opsOf Try.f49 5) = impl_grown__impl_hexAround_impl_normal.T5 := by kernel_rfl
theorem impl_grown__impl_hexAround_impl_normal.bits5 : waitsOk impl_grown__impl_hexAround_impl_normal.T5.2 impl_grown__impl_hexAround_impl_normal.B5 = true := by kernel_rfl
end Go.Proofs.Ytibbjiehblpmfaa.F
end
