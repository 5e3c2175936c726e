/- The row of FnExactPuzzleText, with what it needs: text 8 of 11. -/
import Derived.Test.YtipafadbhmngnaaGreatDoorQ6
set_option maxHeartbeats 8000000
set_option maxRecDepth 100000
section
namespace Go.Proofs.YtipafadbhmngnaaGreatDoor.F
open Go.RowKit Go.Proofs.YtipafadbhmngnaaGreatDoorW.PrintWords Go.Proofs.YtipafadbhmngnaaGreatDoorW.PrintLast Go.Proofs.YtipafadbhmngnaaGreatDoorW.PrintMore
attribute [local go_sem] max2_int min2_int max_two min_two max_three min_three max_four min_four
set_option linter.unusedVariables false
set_option linter.unusedSimpArgs false
open Go.Sort
section
variable {α : Type} [Inhabited α] {enc : α → Value} {w0 W : World} {blk off : Nat} {dk : Array α}
theorem SW_clear (h : SW enc w0 blk off dk W) (hblk : blk < w0.heap.size) (k : Nat) (xs : List α) (hk : k + xs.length ≤ dk.size) : ∃ dk' : Array α, dk'.size = dk.size ∧ dk'.toList.take k = dk.toList.take k ∧ SW enc w0 blk off dk' (W.setCells blk (off + k) (xs.map enc)) := by
  obtain ⟨m, os, rfl⟩ := h
  have hs : (Go.Lib.lay dk k xs).size = dk.size := by
    have : ∀ (xs : List α) (d : Array α) (k : Nat), (Go.Lib.lay d k xs).size = d.size := by
      intro xs
      induction xs with
      | nil => intro d k; rfl
      | cons x r ih => intro d k; rw [Go.Lib.lay, ih]; simp
    exact this _ _ _
  refine ⟨Go.Lib.lay dk k xs, hs, ?_, m, os, ?_⟩
  · apply List.ext_getElem?
    intro j
    by_cases hj : j < k
    · rw [List.getElem?_take_of_lt hj, List.getElem?_take_of_lt hj, Array.getElem?_toList, Go.Lib.lay_get? _ _ _ _ hk, if_neg (by omega), Array.getElem?_toList]
    · rw [List.getElem?_eq_none (by simp; omega), List.getElem?_eq_none (by simp; omega)]
  · unfold sortWorld
    rw [← putRow_grow enc (Go.Sort.ahead w0 m) os blk off dk hblk, Go.Lib.putRow_setCells enc _ blk off _ dk k hk, putRow_grow enc (Go.Sort.ahead w0 m) os blk off _ hblk]
end
theorem quietAt {P : Program} {f : FuncId} {args : Array Value} {w : World} {q a : Nat} {v : Value} (h : Calls P f args (w.drewN (q + a)) fun e w' => e = .returned v ∧ ∃ n, w' = (w.drewN (q + a)).drewN n) : Calls P f args (w.drewN (q + a)) fun e w' => e = .returned v ∧ ∃ n, w' = w.drewN (q + n) :=
  h.mono fun _ _ ⟨he, m, hm⟩ => ⟨he, a + m, by rw [hm, World.drewN_drewN, Nat.add_assoc]⟩
instance instDecC : DecidableEq S82 := fun a b => if h : a.f0 = b.f0 ∧ a.f1 = b.f1 then .isTrue (by obtain ⟨a0, a1⟩ := a; obtain ⟨b0, b1⟩ := b; simp_all) else .isFalse (fun e => h (by rw [e]; exact ⟨rfl, rfl⟩))
open Go.Sort
theorem equalF_rounds (a b : List S82) (hl : a.length = b.length) (hs : a.length ≤ 9223372036854775807) : ∀ (suf pre : List S82), a = pre ++ suf → ∀ k, suf.length < k → impl_Cell_82.l0 k a b (a.length : Int) (pre.length : Int) = some (decide (suf = b.drop pre.length)) := by
  intro suf
  induction suf with
  | nil =>
    intro pre hx k hk
    obtain ⟨k, rfl⟩ : ∃ m, k = m + 1 := ⟨k - 1, by omega⟩
    rw [List.append_nil] at hx
    subst hx
    simp only [impl_Cell_82.l0]
    rw [if_neg (by omega), List.drop_of_length_le (by omega)]
    rfl
  | cons c suf ih =>
    intro pre hx k hk
    obtain ⟨k, rfl⟩ : ∃ m, k = m + 1 := ⟨k - 1, by omega⟩
    have hla : a.length = pre.length + (suf.length + 1) := by rw [hx]; simp
    have hpb : pre.length < b.length := by omega
    have ea : rd_T82 a (pre.length : Int) = c := by
      unfold rd_T82
      rw [hx]
      simp [List.getD]
    have eb : rd_T82 b (pre.length : Int) = b[pre.length] := by
      unfold rd_T82
      rw [List.getD_eq_getElem?_getD, Int.toNat_natCast, List.getElem?_eq_getElem hpb]
      rfl
    have ew : wrap64 ((pre.length : Int) + 1) = ((pre ++ [c]).length : Int) := by
      rw [List.length_append, List.length_singleton]
      simp only [wrap64]
      omega
    have hi := ih (pre ++ [c]) (by rw [hx]; simp) k (by simp at hk; omega)
    rw [List.length_append, List.length_singleton] at hi ew
    simp only [impl_Cell_82.l0]
    rw [if_pos (by omega), if_pos (by omega), if_pos (by omega), if_pos (by omega), ea, eb, ew, hi, List.drop_eq_getElem_cons hpb]
    generalize b[pre.length] = e
    generalize b.drop (pre.length + 1) = t
    split
    · rename_i h
      have hne : c ≠ e := by
        rintro rfl
        simp at h
      simp [hne]
    · rename_i h
      have heq : c = e := by
        cases c
        cases e
        simp_all
      subst heq
      simp
theorem equal_rounds (a b : List S82) (hs : a.length ≤ 9223372036854775807) : ∃ k, impl_equalShapes.f k a b = some (decide (a = b)) := by
  refine ⟨a.length + 1, ?_⟩
  unfold impl_equalShapes.f impl_Cell_82.f
  by_cases hl : a.length = b.length
  · rw [if_pos (by omega)]
    have := equalF_rounds a b hl hs a [] rfl (a.length + 1) (by omega)
    simp only [List.length_nil, Int.natCast_zero, List.drop_zero] at this
    rw [this]
    rfl
  · rw [if_neg (by omega)]
    have : a ≠ b := fun e => hl (by rw [e])
    simp [this]
set_option maxHeartbeats 4000000 in
set_option maxRecDepth 1000000 in
theorem impl_Cell_144__impl_equalShapes.rawE {W0 w : World} {ok : Nat → Prop} {base b cap : Nat} (d : Array (El W0 ok)) (hA : At w base b cap d) (hS : Same W0 w ok) (hg : ¬ ok b) (h0 : 0 < d.size) (hsz : d.size < 4611686018427387904)
    (heq : ∀ (W : World) (dk : Array (El W0 ok)), SW El.v w b 0 dk W → ∀ x y : El W0 ok, Calls Tryz.prog 145 #[x.v, y.v] W fun e w' => e = .returned (.bool (decide (x.l = y.l))) ∧ ∃ n, w' = W.drewN n) :
    Calls Tryz.prog 144 #[.slice (some ⟨b, 0, none⟩) d.size cap, .func (.func 145) #[] #[]] w fun e w' => ∃ (q : Nat) (dk : Array (El W0 ok)) (n : Nat) (os : Array Obj), e = .returned (.slice (some ⟨b, 0, none⟩) q cap) ∧ q ≤ dk.size ∧ dk.size = d.size ∧ (dk.toList.take q).map El.l = compF (d.toList.map El.l) ∧ (dk.toList.take q).Sublist d.toList ∧ w' = sortWorld El.v w b 0 n dk os := by
  have hlt := hA.lt
  have hH := hA.holds
  have hcap := hA.size
  have hcm := hA.max
  have hm : cap ≤ 9223372036854775807 := by unfold maxLen at hcm; omega
  have hO : OneCell (El.v (W0 := W0) (ok := ok)) := El.one
  have hcl0 := hO.cells
  simp only [Value.cells] at hcl0
  have hst := hO.store Tryz.prog
  have HE := aM heq
  have HH := aM hH
  have HL := aM hlt
  have hkey : (d.toList.map El.l).length = d.size := by simp
  have HK := aM hkey
  clear heq hH hlt hS hA hcm hkey hg
  by_cases h2 : d.size < 2
  · go_enter Tryz.func144, Tryz.ntmps144
    go_wp2
    go_ret
    have h1 := AllKeep.one (key := El.l) (d := d) (by omega)
    have e : d.size = 1 := by omega
    refine ⟨d.size, d, 0, #[], rfl, Nat.le_refl _, rfl, ?_, by rw [List.take_of_length_le (by simp)]; exact List.Sublist.refl _, (sortWorld_start El.v w b 0 d HH.out).symm⟩
    have := h1.2
    rw [List.take_of_length_le (by rw [HK.out]; omega)] at this
    rw [List.take_of_length_le (by simp), this]
  · go_enter Tryz.func144, Tryz.ntmps144
    go_wp2
    go_loopg [5] d.size (fun gh s5 wr => ∃ k q : Nat, 1 ≤ k ∧ k ≤ d.size ∧ d.size - k ≤ gh ∧ s5 = .int .i64 k ∧ wr = w.drewN q ∧ AllKeep El.l d k)
    case atStart => exact ⟨1, 0, Nat.le_refl _, by omega, by omega, rfl, rfl, AllKeep.one (by omega)⟩
    case round =>
      obtain ⟨k, q, hk1, hk, hgh, rfl, rfl, hall⟩ := hrel
      by_cases hlt : k < d.size
      · obtain ⟨c1, f1⟩ := HH.out k hlt
        obtain ⟨c0, f0⟩ := HH.out (k - 1) (by omega)
        rw [Nat.zero_add] at c1 c0 f1 f0
        have A := aM hall
        clear hall
        generalize hx : d[k]! = x at c1
        generalize hy : d[k - 1]! = y at c0
        have B : Aside0 (d[k]! = x ∧ d[k - 1]! = y) := ⟨⟨hx, hy⟩⟩
        clear hx hy
        by_cases hdup : x.l = y.l
        · have HD := aM hdup
          have i1 : IntKind.i64.wrap ((k : Int) - 1) = (k : Int) - 1 := IntWalk.i64_in _ (by omega)
          have i2 : (1 : Int) ≤ (k : Int) := by omega
          have i3 : ((k : Int) - 1).toNat = k - 1 := by omega
          have i4 : (k : Int) - 1 < (d.size : Int) := by omega
          have i5 : (0 : Int) ≤ (k : Int) - 1 := by omega
          go_wp2_with fail
          go_quiet ((exact quietAt (v := .bool true) ((HE.out _ d ((SW.start HH.out).drewN (q + _)) x y).mono fun _ _ hh => ⟨by rw [hh.1, decide_eq_true HD.out], hh.2⟩)))
          go_wp2
          clear c0 c1 f0 f1 i1 i2 i3 i4 i5
          go_loopg [5, 7] d.size (fun gh s5 s7 wr => ∃ (kk k2 : Nat) (dk : Array (El W0 ok)), s5 = .int .i64 kk ∧ s7 = .int .i64 k2 ∧ 1 ≤ k2 ∧ k + k2 ≤ d.size ∧ d.size - (k + k2) ≤ gh ∧ Aside0 (SW El.v w b 0 dk wr) ∧ Aside0 (CompIv El.l d (k + k2) kk dk))
          case atStart => exact ⟨k, 1, d, rfl, rfl, Nat.le_refl _, by omega, by omega, ⟨(SW.start HH.out).drewN _⟩, ⟨CompIv.start A.out (by omega) hlt (by rw [B.out.1, B.out.2]; exact HD.out)⟩⟩
          case round =>
            obtain ⟨kk, k2, dk, rfl, rfl, h1, hle, hg2, W2, I2⟩ := hrel
            have hkk := I2.out.lt
            have hds := I2.out.size
            have hHk : Holds El.v wr b 0 dk := W2.out.holds HL.out HH.out hds
            by_cases hlt2 : k + k2 < d.size
            · obtain ⟨cm, _⟩ := hHk (k + k2) (by omega)
              obtain ⟨cp, _⟩ := hHk (k + k2 - 1) (by omega)
              obtain ⟨ck, fk⟩ := hHk kk (by omega)
              rw [I2.out.high (k + k2) (by omega), Nat.zero_add] at cm
              rw [I2.out.high (k + k2 - 1) (by omega), Nat.zero_add, show k + k2 - 1 = k + (k2 - 1) by omega] at cp
              rw [Nat.zero_add] at ck fk
              clear hHk
              generalize hu : d[k + k2]! = u at cm
              generalize hv : d[k + (k2 - 1)]! = v at cp
              generalize dk[kk]! = old at ck
              have hv' : d[k + k2 - 1]! = v := by rw [show k + k2 - 1 = k + (k2 - 1) by omega]; exact hv
              have C : Aside0 (d[k + k2]! = u ∧ d[k + k2 - 1]! = v) := ⟨⟨hu, hv'⟩⟩
              clear hu hv hv'
              have i1 : IntKind.i64.wrap ((k2 : Int) - 1) = (k2 : Int) - 1 := IntWalk.i64_in _ (by omega)
              have i2 : (1 : Int) ≤ (k2 : Int) := by omega
              have i3 : ((k2 : Int) - 1).toNat = k2 - 1 := by omega
              have i4 : (k2 : Int) - 1 < ((d.size - k : Nat) : Int) := by omega
              have i5 : (0 : Int) ≤ (k2 : Int) - 1 := by omega
              have i6 : (k2 : Int) < ((d.size - k : Nat) : Int) := by omega
              by_cases huv : u.l = v.l
              · have HU := aM huv
                clear huv
                go_wp2_with fail
                go_quiet ((exact Calls.quiet_of (v := .bool true) ((HE.out _ dk (W2.out.drewN _) u v).mono fun _ _ hh => ⟨by rw [hh.1, decide_eq_true HU.out], hh.2⟩)))
                go_wp2
                go_roundg (d.size - (k + (k2 + 1)))
                case measure => omega
                case rel => exact ⟨kk, k2 + 1, dk, rfl, by go_num, by omega, by omega, Nat.le_refl _, ⟨W2.out.drewN _⟩, ⟨I2.out.skip hlt2 (by rw [C.out.1, C.out.2]; exact HU.out)⟩⟩
              · have HU := aM huv
                clear huv
                go_wp2_with fail
                go_quiet ((exact Calls.quiet_of (v := .bool false) ((HE.out _ dk (W2.out.drewN _) u v).mono fun _ _ hh => ⟨by rw [hh.1, decide_eq_false HU.out], hh.2⟩)))
                go_wp2
                go_roundg (d.size - (k + (k2 + 1)))
                case measure => omega
                case rel => exact ⟨kk + 1, k2 + 1, dk.setIfInBounds kk u, by go_num, by go_num, by omega, by omega, Nat.le_refl _, ⟨by have := SW_set (W2.out.drewN nq) HL.out kk (by omega) u; rwa [Nat.zero_add] at this⟩, ⟨by have := I2.out.keep hlt2 (by rw [C.out.1, C.out.2]; exact HU.out); rwa [C.out.1] at this⟩⟩
            · have hend : k + k2 = d.size := by omega
              have hcl : ∀ ty, (Builtin.clear_ #[97] ty #[.slice (some ⟨b, kk, none⟩) (d.size - kk) (cap - kk)]).run Tryz.prog wr = .ok (.tuple #[]) (wr.setCells b kk (List.replicate (d.size - kk) (default : El W0 ok).v)) :=
                fun ty => Lib.run_clear_slice wr _ _ ty _ Tryz.underlying97 Tryz.zeroValue28 rfl rfl b kk _ _ (by omega) (fun j hj => by have := (hHk (kk + j) (by omega)).1; rw [Nat.zero_add] at this; rw [this]; rfl) (fun j hj => by have := (hHk (kk + j) (by omega)).2; rw [Nat.zero_add] at this; exact this)
              clear hHk
              have i1 : ¬ (k2 : Int) < ((d.size - k : Nat) : Int) := by omega
              have i2 : kk < cap := by omega
              go_wp2
              go_ret
              obtain ⟨dk', hs', ht', n', os', hw'⟩ := SW_clear W2.out HL.out kk (List.replicate (d.size - kk) default) (by rw [List.length_replicate]; omega)
              rw [Nat.zero_add, List.map_replicate] at hw'
              have hI := I2.out
              rw [hend] at hI
              refine ⟨kk, rfl, dk', by omega, by omega, ?_, ?_, n', os', hw'⟩
              · (try rw [← List.map_take]); rw [ht', hI.low, List.take_of_length_le (by simp)]
              · rw [ht']; have := hI.sub; rwa [List.take_of_length_le (l := d.toList) (by simp)] at this
        · have HD := aM hdup
          clear hdup
          have i1 : IntKind.i64.wrap ((k : Int) - 1) = (k : Int) - 1 := IntWalk.i64_in _ (by omega)
          have i2 : (1 : Int) ≤ (k : Int) := by omega
          have i3 : ((k : Int) - 1).toNat = k - 1 := by omega
          have i4 : (k : Int) - 1 < (d.size : Int) := by omega
          have i5 : (0 : Int) ≤ (k : Int) - 1 := by omega
          go_wp2_with fail
          go_quiet ((exact quietAt (v := .bool false) ((HE.out _ d ((SW.start HH.out).drewN (q + _)) x y).mono fun _ _ hh => ⟨by rw [hh.1, decide_eq_false HD.out], hh.2⟩)))
          go_wp2
          go_roundg (d.size - (k + 1))
          case measure => omega
          case rel => exact ⟨k + 1, q + nq, by omega, by omega, Nat.le_refl _, by go_num, rfl, A.out.step (by omega) hlt (by rw [B.out.1, B.out.2]; exact HD.out)⟩
      · obtain rfl : k = d.size := by omega
        have A := aM hall
        clear hall
        go_wp2
        go_ret
        obtain ⟨n', os', hw'⟩ := (SW.start HH.out).drewN q
        refine ⟨d.size, d, n', os', rfl, Nat.le_refl _, rfl, ?_, by rw [List.take_of_length_le (by simp)]; exact List.Sublist.refl _, hw'⟩
        have := A.out.2
        rw [List.take_of_length_le (by rw [HK.out]; omega)] at this
        rw [List.take_of_length_le (by simp), this]
theorem impl_Cell_144__impl_equalShapes.raw {W0 w : World} {ok : Nat → Prop} {base b cap : Nat} (d : Array (El W0 ok)) (hA : At w base b cap d) (hS : Same W0 w ok) (hg : ¬ ok b) (h0 : 0 < d.size) (hsz : d.size < 4611686018427387904) :
    Calls Tryz.prog 144 #[.slice (some ⟨b, 0, none⟩) d.size cap, .func (.func 145) #[] #[]] w fun e w' => ∃ (q : Nat) (dk : Array (El W0 ok)) (n : Nat) (os : Array Obj), e = .returned (.slice (some ⟨b, 0, none⟩) q cap) ∧ q ≤ dk.size ∧ dk.size = d.size ∧ (dk.toList.take q).map El.l = compF (d.toList.map El.l) ∧ (dk.toList.take q).Sublist d.toList ∧ w' = sortWorld El.v w b 0 n dk os :=
  impl_Cell_144__impl_equalShapes.rawE d hA hS hg h0 hsz fun W dk hW x y => by
    obtain ⟨n, os, rfl⟩ := hW
    have hgw := sortW1_grown El.v w b n dk os
    obtain ⟨A0, c0, e0, hc0, hC0⟩ := x.now (hS.grown hgw hg)
    obtain ⟨A1, c1, e1, hc1, hC1⟩ := y.now (hS.grown hgw hg)
    obtain ⟨k, hk⟩ := equal_rounds x.l y.l hC0.2.1
    rw [e0, e1]
    exact (impl_equalShapes.calls k A0 c0 x.l A1 c1 y.l _ _ hC0 hc0 hC1 hc1 hk).mono fun _ _ hh => ⟨hh.1, hh.2.out⟩
def own {α : Type} (b e : Nat) (d : Kd α) : Kd (List α) where
  sz := 1
  E := e :: d.E
  K := fun w xs cs => ∃ v, cs = [v] ∧ d.R e w b (fun _ => True) v xs
  M := fun _ _ _ _ _ => False
  K_len := by
    rintro w x cs ⟨v, rfl, _⟩
    rfl
  K_one := by
    rintro w x cs ⟨v, rfl, h⟩ u hu
    rw [List.mem_singleton.1 hu]
    exact (Kd.R_val h).2
  K_below := by
    rintro w w1 x cs hb ⟨v, rfl, h⟩
    exact ⟨v, rfl, Kd.R_mono (Kd.R_move (Kd.R_bound h) (fun k hk => hb.block k hk.2.2.1)) (fun _ _ => trivial)⟩
  K_of_M := fun h => h.elim
  M_mono := fun _ h => h
  M_bound := fun h => h
  M_move := fun _ h => h
  M_lower := fun _ h => h
open Go.Sort
def impl_tidyShapes.f (l0 : List (List S82)) : Option (List (List S82)) := if 0 < l0.length ∧ l0.length < 4611686018427387904 then some (compF (sortS l0)) else none
theorem szs_eq {w : World} {ok : Nat → Prop} {d d1 : Array (El w ok)} (h : d1.toList.Perm d.toList) : d.size = d1.size := by
  have := h.length_eq
  rw [Array.length_toList, Array.length_toList] at this
  exact this.symm
set_option maxHeartbeats 4000000 in
theorem impl_tidyShapes.raw {w : World} {ok : Nat → Prop} {base g cap : Nat} (d : Array (El w ok)) (hA : At w base g cap d) (hg : ¬ ok g) (h0 : 0 < d.size) (hsz : d.size < 4611686018427387904) :
    Calls Tryz.prog 112 #[.slice (some ⟨g, 0, none⟩) d.size cap] w fun e w' => ∃ dk : Array (El w ok), e = .returned (.slice (some ⟨g, 0, none⟩) dk.size cap) ∧ At w' base g cap dk ∧ Same w w' ok ∧ dk.toList.map El.l = compF (sortS (d.toList.map El.l)) ∧ ((∀ x ∈ dk.toList, x ∈ d.toList) ∧ ((d.toList.map El.j).Nodup → (dk.toList.map El.j).Nodup)) ∧ w.grownBy w' (some g) := by
  have HA := aM hA
  have HG := aM hg
  have H0 := aM h0
  have HZ := aM hsz
  clear hA hg h0 hsz
  go_enter Tryz.func112, Tryz.ntmps112
  go_wp2_with (first
    | (go_at_call 142; refine (impl_Cell_142__impl_compareShapes.raw d HA.out (Same.refl _ _) HG.out HZ.out).mono ?_; rintro e w1 ⟨rfl, d1, n1, os1, hp, hr, hw⟩; have HP := aM hp; have HR := aM hr; have HW := aM hw; have HS := aM (szs_eq hp); clear hp hr hw)
    | (go_at_call 144; have hC := impl_Cell_144__impl_equalShapes.raw (w := w1) (base := base) (cap := cap) d1 (by rw [HW.out]; exact HA.out.sorted HS.out.symm) (by rw [HW.out]; exact (Same.refl _ _).grown (sortW1_grown _ _ _ _ _ _) HG.out) HG.out (by rw [← HS.out]; exact H0.out) (by rw [← HS.out]; exact HZ.out); rw [← HS.out] at hC; refine hC.mono ?_; clear hC; rintro e w2 ⟨q, dk, n2, os2, rfl, hq, hs2, hl, hsub, hw2⟩; have H2 := aM (And.intro hq (And.intro hs2 (And.intro hl (And.intro hsub hw2)))); clear hq hs2 hl hsub hw2))
  go_ret
  obtain ⟨hq, hs2, hl, hsub, hw2⟩ := H2.out
  have g1 := sortW1_grown El.v w g n1 d1 os1
  rw [← HW.out] at g1
  have g2 := sortW1_grown El.v w1 g n2 dk os2
  rw [← hw2] at g2
  have hs1 := HS.out
  have A1 : At w1 base g cap d1 := by rw [HW.out]; exact HA.out.sorted hs1.symm
  have A2 : At w2 base g cap dk := by rw [hw2]; exact A1.sorted (hs2.trans hs1)
  have hz : (dk.toList.take q).toArray.size = q := by simp; omega
  refine ⟨(dk.toList.take q).toArray, by rw [hz]; rfl, A2.cut q hq, ((Same.refl _ _).grown g1 HG.out).grown g2 HG.out, by rw [← HR.out]; exact hl, ⟨fun x hx => HP.out.mem_iff.1 (hsub.mem hx), fun hn => ?_⟩, g1.trans g2⟩
  exact ((hsub.map El.j).nodup (((HP.out.map El.j).nodup_iff).2 hn))
theorem impl_tidyShapes.calls (P0_ : Nat → Prop) (u9000_ : Value) (l0 : List (List S82)) (r : List (List S82)) (w0 w : World) (hB : Below w0.heap.size w0 w) (ho0 : Kd.S (Kd.slice 82 k82) 28 w w0.heap.size P0_ u9000_ l0) (h : impl_tidyShapes.f l0 = some r) :
    Calls Tryz.prog 112 #[u9000_] w fun e w' => ∃ v0_ : Value, e = .returned (v0_) ∧ Kd.S (Kd.slice 82 k82) 28 w' w0.heap.size (fun k_ => (P0_ k_ ∨ w.heap.size ≤ k_)) v0_ r ∧ Below w0.heap.size w0 w' ∧ Kept w w' (fun k_ => some k_ = u9000_.ownBlock) := by
  unfold impl_tidyShapes.f at h
  by_cases hl : 0 < l0.length ∧ l0.length < 4611686018427387904
  · rw [if_pos hl] at h
    obtain rfl := Option.some.inj h
    obtain ⟨g, cap, rfl, _⟩ := Kd.S_form ho0 hl.1
    obtain ⟨hok, hn, f, d, hd, hA, hj, hM⟩ := S_open ho0
    have hdn : d.size = l0.length := by rw [← hd]; simp
    have hcon := impl_tidyShapes.raw d hA (fun h_ => h_.2 rfl) (by omega) (by omega)
    rw [hdn] at hcon
    refine hcon.mono ?_
    rintro e w' ⟨dk, rfl, hA2, hS2, hl2, ⟨hmem, hnod⟩, hgw⟩
    rw [hd] at hl2
    refine ⟨_, rfl, ?_, pw_below_grown hB (some g) hB.size hgw (fun k hk => by injection hk with hk; exact hk ▸ hA.base), ?_⟩
    · have h2 := S_close hok hA2 hS2 (hnod (by rw [hj]; exact List.nodup_range)) (fun x hx => hM x (hmem x hx))
      rw [hl2] at h2
      exact Kd.S_mono h2 (fun _ hk => .inl hk)
    · refine ⟨hgw.size, fun i hi hn => hgw.block i hi ?_⟩
      intro e
      injection e with e
      exact hn (e ▸ rfl)
  · rw [if_neg hl] at h
    exact absurd h (by simp)
def impl_moved.l0 : Nat → Int → Int → List (S82) → List (S82) → Int → Int → Option ((List (S82)))
 | 0, _, _, _, _, _, _ => none
 | k + 1, x1, x2, x7, x13, x14, x15 => if x15 < x14 then (if 0 ≤ x15 then (if x15 < (x13.length : Int) then (if x7.length < 8796093022208 then (impl_moved.l0 k x1 x2 (x7 ++ [(⟨wrap64 (((rd_T82 x13 x15).f0) + x1), wrap64 (((rd_T82 x13 x15).f1) + x2)⟩ : S82)]) x13 x14 (wrap64 (x15 + 1))) else (none)) else (none)) else (none)) else (some x7)
def impl_moved.f (k : Nat) (l0 : List (S82)) (a1 : Int) (a2 : Int) : Option ((List (S82))) := if 0 ≤ (l0.length : Int) then (if ((l0.length : Int) : Int).toNat ≤ 17592186044416 then (impl_moved.l0 k a1 a2 (([] : List (S82))) l0 (l0.length : Int) 0) else (none)) else (none)
theorem impl_moved.calls (k : Nat) (A0 : Option Addr) (c0 : Nat) (l0 : List (S82)) (a1 : Int) (a2 : Int) (r : List (S82)) (w : World) (hr0 : Kd.C k82 w A0 l0.length l0) (hc0 : l0.length ≤ c0) (h : impl_moved.f k l0 a1 a2 = some r) :
  Calls Tryz.prog 118 #[.slice A0 l0.length c0, .int .i64 a1, .int .i64 a2] w fun e w' => ∃ v0_ : Value, e = .returned (v0_) ∧ Kd.R k82 82 w' w.heap.size (fun _ => True) v0_ r ∧ Below w.heap.size w w' := by
 have hu82 := Tryz.underlying82
 have HR0 := aM hr0
 have HC0 := aM hc0
 clear hr0 hc0
 have HB := aM (Below.refl w.heap.size w)
 have H : (if 0 ≤ (l0.length : Int) then (if ((l0.length : Int) : Int).toNat ≤ 17592186044416 then (impl_moved.l0 k a1 a2 (([] : List (S82))) l0 (l0.length : Int) 0) else (none)) else (none)) = some r := h
 clear h
 by_cases c4 : 0 ≤ (l0.length : Int)
 rotate_left
 ·rw [if_neg c4] at H
  exact absurd H (by simp)
 rw [if_pos c4] at H
 have c4b0 := eq_true c4
 have c4b1 : decide (0 ≤ (l0.length : Int)) = true := decide_eq_true c4
 clear c4
 by_cases c5 : ((l0.length : Int) : Int).toNat ≤ 17592186044416
 rotate_left
 ·rw [if_neg c5] at H
  exact absurd H (by simp)
 rw [if_pos c5] at H
 have c5b0 := eq_true c5
 have c5b1 : decide (((l0.length : Int) : Int).toNat ≤ 17592186044416) = true := decide_eq_true c5
 clear c5
 obtain ⟨y448, hy448⟩ : ∃ y_ : List (S82), y_ = (([] : List (S82))) := ⟨_, rfl⟩
 replace H : (impl_moved.l0 k a1 a2 y448 l0 (l0.length : Int) 0) = some r := zy H hy448
 have Ny448 := aM hy448
 clear hy448
 have H' := aM H
 clear H
 go_enter Tryz.func118, Tryz.ntmps118
 go_wp2_with (first | ((with_reducible refine gate_dst (N := 12) rfl ?_); refine Kd.R_make0 k82 _ 82 rfl (N := 12) rfl 28 _ _ rfl (l0.length : Int) rfl rfl Tryz.underlying28 (.agg #[(.int .i64 0), (.int .i64 0)]) 16 info82 rfl (by decide) (by omega) z82 (ok := fun _ => True) (okp := fun _ => True) (k82_mkM _ _ _ z82 ) (fun _ hk => hk) trivial (of_decide_eq_true za) (Nat.le_trans (Nat.mul_le_mul_right _ (of_decide_eq_true za : (l0.length : Int).toNat ≤ 17592186044416)) (by omega)) (Below.refl _ _) (Nat.le_refl _) ?_; intro v449 w6 ho7 hb hg_ hnew_; clear hg_ hnew_; (first | rw [← Ny448.out] at ho7 | (simp only [Int.reduceToNat] at ho7; rw [← Ny448.out] at ho7)); have _ := aM (Kd.R_lower ho7 (below_size zb)); have _ := aM (below_step zb hb); clear HB; rename_i HO450 HB; clear hb ho7))
 go_loopg [7, 15] k (fun kq v7 v15 w' => ∃ (x7_1 : List (S82)) (x15_1 : Int), v15 = .int .i64 x15_1 ∧ Aside0 (impl_moved.l0 kq a1 a2 x7_1 l0 (l0.length : Int) x15_1 = some r) ∧ Aside0 (kq ≤ k) ∧ Aside0 (Kd.R k82 82 w' w.heap.size (fun _ => True) v7 x7_1) ∧ Aside0 (Below w.heap.size w w'))
 case atStart => exact ⟨(y448), (0), zr, H', ⟨Nat.le_refl _⟩, ⟨mR_ HO450.out⟩, ⟨zb⟩⟩
 case round =>
  clear H'
  try clear c1
  try clear p2
  try clear c4
  try clear c4b0
  try clear c4b1
  try clear c5
  try clear c5b0
  try clear c5b1
  obtain ⟨x7_1, x15_1, rfl, HA, HK1, HO_7, HB⟩ := hrel
  cases gk with
  | zero => exact absurd HA.out (by simp [impl_moved.l0])
  | succ k1 =>
   have H := HA.out
   clear HA
   simp only [impl_moved.l0] at H
   by_cases c8 : x15_1 < (l0.length : Int)
   rotate_left
   ·rw [if_neg c8] at H
    have c8b0 : decide (x15_1 < (l0.length : Int)) = false := decide_eq_false c8
    clear c8
    obtain rfl := Option.some.inj H
    go_wp2
    go_ret
    exact ⟨_, zw, mR_ HO_7.out, zb⟩
   rw [if_pos c8] at H
   have c8b0 : decide (x15_1 < (l0.length : Int)) = true := decide_eq_true c8
   clear c8
   by_cases c9 : 0 ≤ x15_1
   rotate_left
   ·rw [if_neg c9] at H
    exact absurd H (by simp)
   rw [if_pos c9] at H
   have c9b0 : decide (0 ≤ x15_1) = true := decide_eq_true c9
   clear c9
   by_cases c10 : x15_1 < (l0.length : Int)
   rotate_left
   ·rw [if_neg c10] at H
    exact absurd H (by simp)
   rw [if_pos c10] at H
   have c10b0 : decide (x15_1 < (l0.length : Int)) = true := decide_eq_true c10
   clear c10
   by_cases c11 : x7_1.length < 8796093022208
   rotate_left
   ·rw [if_neg c11] at H
    exact absurd H (by simp)
   rw [if_pos c11] at H
   have LMc11 := aM c11
   clear c11
   obtain ⟨y453, hy453⟩ : ∃ y_ : List (S82), y_ = (x7_1 ++ [(⟨wrap64 (((rd_T82 l0 x15_1).f0) + a1), wrap64 (((rd_T82 l0 x15_1).f1) + a2)⟩ : S82)]) := ⟨_, rfl⟩
   replace H : (impl_moved.l0 k1 a1 a2 y453 l0 (l0.length : Int) (wrap64 (x15_1 + 1))) = some r := zy H hy453
   have Ny453 := aM hy453
   clear hy453
   have H' := aM H
   clear H
   have p451 : 0 ≤ (x15_1 : Int) := of_decide_eq_true za
   have q451 : x15_1 < (l0.length : Int) := of_decide_eq_true za
   obtain ⟨ad451, e451, hx451_0, hx451_1⟩ := at_T82 HR0.out x15_1 p451 q451
   cases e451
   replace hx451_0 := zk HB.out hx451_0
   replace hx451_1 := zk HB.out hx451_1
   replace p451 := eq_true p451
   replace q451 := eq_true q451
   go_wp2_with (first | ((with_reducible refine gate_dst (N := 9) rfl ?_); refine zx 9 #[.int .i64 0, .int .i64 0] 82 ?_; intro gb452 hg w12 hbox hb; have _ := aM (Kd.R_below (Kd.R_elderB (mR_ HO_7.out) gb452 (Nat.le_of_eq hg.symm)) hb); have _ := aM (below_step zb hb); have _ := aM (hbox); have _ := aM ((ze : w.heap.size ≤ gb452)); have _ := aM ((ze : w.heap.size ≤ gb452)); clear HO_7 HB; rename_i HO_7 HB BK452 GW452 GE452; clear hb hbox hg; obtain ⟨hcz13_0, hcz13_1, hfz13_0, hfz13_1⟩ := zQ2 BK452.out) | ((with_reducible refine gate_builtin (b := .append) (xs := #[.tmp 19, .tmp 29]) rfl ?_); at_builtin; refine Kd.R_append k82 (w0 := w) w.heap.size rfl (.tmp 19) (.tmp 29) 28 82 (.agg #[(.int .i64 0), (.int .i64 0)]) 16 rfl Tryz.underlying28 info82 rfl (by decide) (by omega) u7 x7_1 (⟨wrap64 (((rd_T82 l0 x15_1).f0) + a1), wrap64 (((rd_T82 l0 x15_1).f1) + a2)⟩ : S82) [.int .i64 (wrap64 (((rd_T82 l0 x15_1).f0) + a1)), .int .i64 (wrap64 (((rd_T82 l0 x15_1).f1) + a2))] (fun k_ => k_ ≠ gb452) (fun _ => False) rfl (by first | (go_simp; done) | (go_simp; rfl)) ?aP (fun _ hk => hk.elim) ?aF ?aO ?aB ?aS ?aL ?_; (case aP => exact k82_mkM _ _ _ (⟨wrap64 (((rd_T82 l0 x15_1).f0) + a1), wrap64 (((rd_T82 l0 x15_1).f1) + a2)⟩ : S82)); (case aB => exact (zs GE452.out)); (case aF => exact (fun k_ hk => Kd.freshB (g := gb452) (o := .cells #[.int .i64 ((rd_T82 l0 x15_1).f0), .int .i64 ((rd_T82 l0 x15_1).f1)] 82 (0, 0)) (by (with_reducible repeat (first | refine blk_drewN ?_ _ | refine blk_drew ?_ | refine blk_alloc ?_ _)); refine blk_put (cs := #[.int .i64 ((rd_T82 l0 x15_1).f0), .int .i64 0]) ?_ 1 _ rfl; (with_reducible repeat (first | refine blk_drewN ?_ _ | refine blk_drew ?_ | refine blk_alloc ?_ _)); refine blk_put (cs := #[.int .i64 0, .int .i64 0]) ?_ 0 _ rfl; (with_reducible repeat (first | refine blk_drewN ?_ _ | refine blk_drew ?_ | refine blk_alloc ?_ _)); exact BK452.out) k_ hk)); (case aO => exact (by (with_reducible repeat (first | apply Kd.R_alloc | apply Kd.R_drewN | apply Kd.R_drew)); exact Kd.R_mono (Kd.R_far (p := ⟨gb452, 1, none⟩) (Kd.R_far (p := ⟨gb452, 0, none⟩) (Kd.R_mono HO_7.out (fun k_ hk => (⟨hk, hk.2⟩ : _ ∧ k_ ≠ gb452))) (fun _ hk => hk.2) (.int .i64 ((rd_T82 l0 x15_1).f0))) (fun _ hk => hk.2) (.int .i64 ((rd_T82 l0 x15_1).f1))) (fun _ hk => hk.1.2))); (case aS => exact (below_size (zs GE452.out))); (case aL => have := LMc11.out; omega); intro v454 w14 ho hb hg hat; rw [← Ny453.out] at ho; have _ := aM (blk_grown (g := gb452) (o := .cells #[.int .i64 ((rd_T82 l0 x15_1).f0), .int .i64 ((rd_T82 l0 x15_1).f1)] 82 (0, 0)) (by (with_reducible repeat (first | refine blk_drewN ?_ _ | refine blk_drew ?_ | refine blk_alloc ?_ _)); refine blk_put (cs := #[.int .i64 ((rd_T82 l0 x15_1).f0), .int .i64 0]) ?_ 1 _ rfl; (with_reducible repeat (first | refine blk_drewN ?_ _ | refine blk_drew ?_ | refine blk_alloc ?_ _)); refine blk_put (cs := #[.int .i64 0, .int .i64 0]) ?_ 0 _ rfl; (with_reducible repeat (first | refine blk_drewN ?_ _ | refine blk_drew ?_ | refine blk_alloc ?_ _)); exact BK452.out) hg (Kd.R_away HO_7.out (fun _ hk => hk.2))); have _ := aM (hb); have _ := aM (ho); clear BK452 HB HO_7; rename_i BK452 HB HO455; clear ho hb hg hat))
   go_roundg k1
   case measure => have := HK1.out; omega
   case rel => exact ⟨(y453), (wrap64 (x15_1 + 1)), zr, H', ⟨by have := HK1.out; omega⟩, ⟨zd0 HO455.out⟩, ⟨zs GE452.out⟩⟩
def impl_normal.f (k : Nat) (l0 : List (S82)) : Option ((List (S82))) := (impl_corner.f k l0).bind fun bt456 => ((impl_moved.f k l0 (wrap64 (-bt456.1)) (wrap64 (-bt456.2))).bind fun t459 => (some t459))
theorem impl_normal.calls (k : Nat) (A0 : Option Addr) (c0 : Nat) (l0 : List (S82)) (r : List (S82)) (w : World) (hr0 : Kd.C k82 w A0 l0.length l0) (hc0 : l0.length ≤ c0) (h : impl_normal.f k l0 = some r) :
  Calls Tryz.prog 88 #[.slice A0 l0.length c0] w fun e w' => ∃ v0_ : Value, e = .returned (v0_) ∧ Kd.R k82 82 w' w.heap.size (fun _ => True) v0_ r ∧ Below w.heap.size w w' := by
 have hu82 := Tryz.underlying82
 have HR0 := aM hr0
 have HC0 := aM hc0
 clear hr0 hc0
 have HB := aM (Below.refl w.heap.size w)
 have H : ((impl_corner.f k l0).bind fun bt456 => ((impl_moved.f k l0 (wrap64 (-bt456.1)) (wrap64 (-bt456.2))).bind fun t459 => (some t459))) = some r := h
 clear h
 replace H := Option.bind_eq_some_iff.mp H
 obtain ⟨⟨t456, t457⟩, A20, H⟩ := H
 replace H : ((impl_moved.f k l0 (wrap64 (-t456)) (wrap64 (-t457))).bind fun t459 => (some t459)) = some r := H
 have A2 := aM A20
 clear A20
 replace H := Option.bind_eq_some_iff.mp H
 obtain ⟨t459, A30, H⟩ := H
 replace H : (some t459) = some r := H
 have A3 := aM A30
 clear A30
 obtain rfl := Option.some.inj H
 go_enter Tryz.func88, Tryz.ntmps88
 go_wp2_with (first | ((with_reducible refine gate_callee (f := 73) rfl ?_); refine goesL_ (some 5) rfl rfl Tryz.func73 (by kernel_rfl) rfl #[.slice A0 l0.length c0] rfl zm ?_; (with_reducible refine (impl_corner.calls k _ _ l0 t456 t457 _ ?side1 ?side2 A2.out).mono ?_); (case side1 => repeat (first | exact HR0.out | (with_reducible refine Kd.C_alloc ?_ _) | (with_reducible refine Kd.C_drewN ?_ _) | (with_reducible refine Kd.C_drew ?_))); (case side2 => exact HC0.out); rintro e w4 ⟨rfl, hb⟩; refine ⟨_, rfl, ?_⟩; have _ := aM (below_step zb hb); clear HB; rename_i HB; (try clear hb); (try clear hb2); (try clear hk); (try clear hi)) | ((with_reducible refine gate_dst (N := 3) rfl ?_); refine zx 3 #[.int .i64 0, .int .i64 0] 82 ?_; intro gb458 hg w5 hbox hb; have _ := aM (below_step zb hb); have _ := aM (hbox); have _ := aM ((ze : w.heap.size ≤ gb458)); have _ := aM ((ze : w.heap.size ≤ gb458)); clear HB; rename_i HB BK458 GW458 GE458; clear hb hbox hg; obtain ⟨hcz6_0, hcz6_1, hfz6_0, hfz6_1⟩ := zQ2 BK458.out) | ((with_reducible refine gate_callee (f := 118) rfl ?_); refine goesL_ (some 13) rfl rfl Tryz.func118 (by kernel_rfl) rfl #[.slice A0 l0.length c0, .int .i64 (wrap64 (-t456)), .int .i64 (wrap64 (-t457))] rfl zm ?_; (with_reducible refine (impl_moved.calls k _ _ l0 (wrap64 (-t456)) (wrap64 (-t457)) t459 _ ?side1 ?side2 A3.out).mono ?_); (case side1 => exact Kd.C_below HR0.out (zs GE458.out)); (case side2 => exact HC0.out); rintro e w7 ⟨v460, rfl, ho0, hb⟩; refine ⟨_, rfl, ?_⟩; have _ := aM (Kd.R_lower (Kd.R_newB ho0 (g := gb458) (o := .cells #[.int .i64 t456, .int .i64 t457] 82 (0, 0)) (by (with_reducible repeat (first | refine blk_drewN ?_ _ | refine blk_drew ?_ | refine blk_alloc ?_ _)); refine blk_put (cs := #[.int .i64 t456, .int .i64 0]) ?_ 1 _ rfl; (with_reducible repeat (first | refine blk_drewN ?_ _ | refine blk_drew ?_ | refine blk_alloc ?_ _)); refine blk_put (cs := #[.int .i64 0, .int .i64 0]) ?_ 0 _ rfl; (with_reducible repeat (first | refine blk_drewN ?_ _ | refine blk_drew ?_ | refine blk_alloc ?_ _)); exact BK458.out)) (below_size (zs GE458.out))); have _ := aM (blk_below (g := gb458) (o := .cells #[.int .i64 t456, .int .i64 t457] 82 (0, 0)) (by (with_reducible repeat (first | refine blk_drewN ?_ _ | refine blk_drew ?_ | refine blk_alloc ?_ _)); refine blk_put (cs := #[.int .i64 t456, .int .i64 0]) ?_ 1 _ rfl; (with_reducible repeat (first | refine blk_drewN ?_ _ | refine blk_drew ?_ | refine blk_alloc ?_ _)); refine blk_put (cs := #[.int .i64 0, .int .i64 0]) ?_ 0 _ rfl; (with_reducible repeat (first | refine blk_drewN ?_ _ | refine blk_drew ?_ | refine blk_alloc ?_ _)); exact BK458.out) hb); have _ := aM (below_step (zs GE458.out) hb); clear BK458 HB; rename_i HO461 BK458 HB; (try clear hb); (try clear hb2); (try clear hk); (try clear hi); (try clear ho0)))
 go_ret
 exact ⟨_, zw, zd0 HO461.out, zs GE458.out⟩
end Go.Proofs.YtipafadbhmngnaaGreatDoor.F
end
section
namespace Go.Proofs.YtipafadbhmngnaaGreatDoor.F
open Go.RowKit Go.Proofs.YtipafadbhmngnaaGreatDoorW.PrintWords Go.Proofs.YtipafadbhmngnaaGreatDoorW.PrintLast Go.Proofs.YtipafadbhmngnaaGreatDoorW.PrintMore
attribute [local go_sem] max2_int min2_int max_two min_two max_three min_three max_four min_four
set_option linter.unusedVariables false
set_option linter.unusedSimpArgs false
mutual
def impl_turnCell.j0 : Nat → Int → Int → Int → Option (Int × Int)
 | 0, _, _, _ => none
 | k + 1, x1, x463000, x463001 => impl_turnCell.l0 k (Int.tmod x1 4) 0 x463000 x463001
def impl_turnCell.l0 : Nat → Int → Int → Int → Int → Option (Int × Int)
 | 0, _, _, _, _ => none
 | k + 1, x12, x13, x463000, x463001 => if x13 < x12 then (impl_turnCell.l0 k x12 (wrap64 (x13 + 1)) (wrap64 (-x463001)) x463000) else (some (x463000, x463001))
end
def impl_turnCell.f (k : Nat) (a0_0 : Int) (a0_1 : Int) (a1 : Int) : Option (Int × Int) := if a1 ≥ 4 then (impl_turnCell.j0 k a1 (wrap64 (-a0_0)) a0_1) else (impl_turnCell.j0 k a1 a0_0 a0_1)
theorem impl_turnCell.calls (k : Nat) (a0_0 : Int) (a0_1 : Int) (a1 : Int) (r1 : Int) (r2 : Int) (w : World) (h : impl_turnCell.f k a0_0 a0_1 a1 = some (r1, r2)) :
  Calls Tryz.prog 166 #[.agg #[.int .i64 a0_0, .int .i64 a0_1], .int .i64 a1] w fun e w' => e = .returned (.agg #[.int .i64 r1, .int .i64 r2]) ∧ Below w.heap.size w w' := by
 have hu82 := Tryz.underlying82
 have HB := aM (Below.refl w.heap.size w)
 have H : (if a1 ≥ 4 then (impl_turnCell.j0 k a1 (wrap64 (-a0_0)) a0_1) else (impl_turnCell.j0 k a1 a0_0 a0_1)) = some (r1, r2) := h
 clear h
 have HC3 := aM H
 clear H
 go_enter Tryz.func166, Tryz.ntmps166
 go_upto_if 6 with (first | ((with_reducible refine gate_dst (N := 2) rfl ?_); refine zx 2 #[.int .i64 a0_0, .int .i64 a0_1] 82 ?_; intro gb462 hg w4 hbox hb; have _ := aM (below_step zb hb); have _ := aM (hbox); have _ := aM ((ze : w.heap.size ≤ gb462)); have _ := aM ((ze : w.heap.size ≤ gb462)); clear HB; rename_i HB BK462 GW462 GE462; clear hb hbox hg) | ((with_reducible refine gate_dst (N := 4) rfl ?_); refine zx 4 #[.int .i64 0, .int .i64 0] 82 ?_; intro gb463 hg w5 hbox hb; have _ := aM (blk_below (g := gb462) (o := .cells #[.int .i64 a0_0, .int .i64 a0_1] 82 (0, 0)) (mB_ BK462.out) hb); have _ := aM (below_step (zs GE462.out) hb); have _ := aM (hbox); have _ := aM ((zf GE462.out : w.heap.size ≤ gb463)); have _ := aM ((zf GE462.out : w.heap.size ≤ gb463)); have _ := aM ((zl BK462.out : gb462 ≠ gb463)); have _ := aM ((zn BK462.out : gb463 ≠ gb462)); clear BK462 HB; rename_i BK462 HB BK463 GW463 GE463 NB462_463 NB463_462; clear hb hbox hg))
 (try simp only [Act.put, xA, xB, xC])
 go_cut [] (fun wc => ∃ (kq : Nat) (x463000_2 : Int), Aside0 (impl_turnCell.j0 kq a1 x463000_2 a0_1 = some (r1, r2)) ∧ Aside0 (kq ≤ k) ∧ Aside0 (wc.heap[gb462]? = some (.cells #[.int .i64 x463000_2, .int .i64 a0_1] 82 (0, 0))) ∧ Aside0 (wc.heap[gb463]? = some (.cells #[.int .i64 0, .int .i64 0] 82 (0, 0))) ∧ Aside0 (Below w.heap.size w wc))
 case first =>
  have H := HC3.out
  clear HC3
  by_cases c6 : a1 ≥ 4
  rotate_left
  ·rw [if_neg c6] at H
   have c6b0 : decide (4 ≤ a1) = false := decide_eq_false c6
   clear c6
   (first | rw [c6b0] | (simp only [i64_w, i32_w]; rw [c6b0]) | skip)
   have H' := aM H
   clear H
   go_wp2
   go_meet
   case rel => exact ⟨_, (a0_0), H', ⟨by first | omega | exact Nat.le_refl _⟩, ⟨mB_ BK462.out⟩, ⟨mB_ BK463.out⟩, ⟨zt GE462.out GE463.out⟩⟩
  rw [if_pos c6] at H
  have c6b0 : decide (4 ≤ a1) = true := decide_eq_true c6
  clear c6
  (first | rw [c6b0] | (simp only [i64_w, i32_w]; rw [c6b0]) | skip)
  have H' := aM H
  clear H
  have hnb7 := NB462_463.out
  have hnc7 := NB463_462.out
  obtain ⟨hcz8_0, hcz8_1, hfz8_0, hfz8_1⟩ := zQ2 BK462.out
  go_wp2
  go_meet
  case rel => exact ⟨_, (wrap64 (-a0_0)), H', ⟨by first | omega | exact Nat.le_refl _⟩, ⟨by (with_reducible repeat (first | refine blk_drewN ?_ _ | refine blk_drew ?_ | refine blk_alloc ?_ _)); refine blk_put (cs := #[.int .i64 a0_0, .int .i64 a0_1]) ?_ 0 _ rfl; (with_reducible repeat (first | refine blk_drewN ?_ _ | refine blk_drew ?_ | refine blk_alloc ?_ _)); exact BK462.out⟩, ⟨by (with_reducible repeat (first | refine blk_drewN ?_ _ | refine blk_drew ?_ | refine blk_alloc ?_ _)); refine blk_far ?_ NB463_462.out _; (with_reducible repeat (first | refine blk_drewN ?_ _ | refine blk_drew ?_ | refine blk_alloc ?_ _)); exact BK463.out⟩, ⟨zt GE462.out GE463.out⟩⟩
 case rest =>
  clear HC3
  try clear c1
  try clear p2
  try clear c6
  try clear c6b0
  try clear p6
  try clear c7
  try clear hcz8_0
  try clear hcz8_1
  try clear hfz8_0
  try clear hfz8_1
  obtain ⟨kq, x463000_2, HA, HJ2, BK462, BK463, HB⟩ := hcut
  cases kq with
  | zero => exact absurd HA.out (by simp [impl_turnCell.j0])
  | succ kj2 =>
   have H := HA.out
   clear HA
   simp only [impl_turnCell.j0] at H
   have H' := aM H
   clear H
   go_wp2
   go_loopg [13] kj2 (fun kq v13 w' => ∃ (x13_2 : Int) (x463000_2 : Int) (x463001_2 : Int), v13 = .int .i64 x13_2 ∧ Aside0 (impl_turnCell.l0 kq (Int.tmod a1 4) x13_2 x463000_2 x463001_2 = some (r1, r2)) ∧ Aside0 (kq ≤ kj2) ∧ Aside0 (w'.heap[gb462]? = some (.cells #[.int .i64 x463000_2, .int .i64 x463001_2] 82 (0, 0))) ∧ Aside0 (w'.heap[gb463]? = some (.cells #[.int .i64 0, .int .i64 0] 82 (0, 0))) ∧ Aside0 (Below w.heap.size w w'))
   case atStart => exact ⟨(0), (x463000_2), (a0_1), zr, H', ⟨Nat.le_refl _⟩, ⟨mB_ BK462.out⟩, ⟨mB_ BK463.out⟩, ⟨zt GE462.out GE463.out⟩⟩
   case round =>
    clear H'
    try clear c1
    try clear p2
    try clear c6
    try clear c6b0
    try clear p6
    try clear c7
    try clear hcz8_0
    try clear hcz8_1
    try clear hfz8_0
    try clear hfz8_1
    try clear p2
    try clear p6
    obtain ⟨x13_2, x463000_2, x463001_2, rfl, HA, HK2, BK462, BK463, HB⟩ := hrel
    cases gk with
    | zero => exact absurd HA.out (by simp [impl_turnCell.l0])
    | succ k2 =>
     have H := HA.out
     clear HA
     simp only [impl_turnCell.l0] at H
     by_cases c9 : x13_2 < (Int.tmod a1 4)
     ·rw [if_pos c9] at H
      have c9b0 : decide (x13_2 < (Int.tmod a1 4)) = true := decide_eq_true c9
      clear c9
      have H' := aM H
      clear H
      have hnb10 := NB462_463.out
      have hnc10 := NB463_462.out
      obtain ⟨hcz11_0, hcz11_1, hfz11_0, hfz11_1⟩ := zQ2 BK462.out
      go_wp2
      go_roundg k2
      case measure => have := HJ2.out; have := HK2.out; omega
      case rel => exact ⟨(wrap64 (x13_2 + 1)), (wrap64 (-x463001_2)), (x463000_2), zr, H', ⟨by have := HJ2.out; have := HK2.out; omega⟩, ⟨by (with_reducible repeat (first | refine blk_drewN ?_ _ | refine blk_drew ?_ | refine blk_alloc ?_ _)); refine blk_put (cs := #[.int .i64 (wrap64 (-x463001_2)), .int .i64 x463001_2]) ?_ 1 _ rfl; (with_reducible repeat (first | refine blk_drewN ?_ _ | refine blk_drew ?_ | refine blk_alloc ?_ _)); refine blk_put (cs := #[.int .i64 x463000_2, .int .i64 x463001_2]) ?_ 0 _ rfl; (with_reducible repeat (first | refine blk_drewN ?_ _ | refine blk_drew ?_ | refine blk_alloc ?_ _)); exact BK462.out⟩, ⟨by (with_reducible repeat (first | refine blk_drewN ?_ _ | refine blk_drew ?_ | refine blk_alloc ?_ _)); refine blk_far ?_ NB463_462.out _; (with_reducible repeat (first | refine blk_drewN ?_ _ | refine blk_drew ?_ | refine blk_alloc ?_ _)); refine blk_far ?_ NB463_462.out _; (with_reducible repeat (first | refine blk_drewN ?_ _ | refine blk_drew ?_ | refine blk_alloc ?_ _)); exact BK463.out⟩, ⟨zt GE462.out GE463.out⟩⟩
     rw [if_neg c9] at H
     have c9b0 : decide (x13_2 < (Int.tmod a1 4)) = false := decide_eq_false c9
     clear c9
     simp only [Option.some.injEq, Prod.mk.injEq] at H
     obtain ⟨rfl, rfl⟩ := H
     have hnb12 := NB462_463.out
     have hnc12 := NB463_462.out
     obtain ⟨hcz13_0, hcz13_1, hfz13_0, hfz13_1⟩ := zQ2 BK462.out
     obtain ⟨hcz14_0, hcz14_1, hfz14_0, hfz14_1⟩ := zQ2 BK463.out
     go_wp2
     refine bodyPost_ret (results_cell_row rfl _ _ gb463 82 #[.int .i64 x463000_2, .int .i64 x463001_2] (0, 0) _ rfl (by (with_reducible repeat (first | refine blk_drewN ?_ _ | refine blk_drew ?_ | refine blk_alloc ?_ _)); refine blk_put (cs := #[.int .i64 x463000_2, .int .i64 0]) ?_ 1 _ rfl; (with_reducible repeat (first | refine blk_drewN ?_ _ | refine blk_drew ?_ | refine blk_alloc ?_ _)); refine blk_put (cs := #[.int .i64 0, .int .i64 0]) ?_ 0 _ rfl; (with_reducible repeat (first | refine blk_drewN ?_ _ | refine blk_drew ?_ | refine blk_alloc ?_ _)); exact BK463.out) Tryz.underlying82 rfl (by kernel_rfl)) rfl ?_
     exact ⟨zw, zt GE462.out GE463.out⟩
def impl_Cell_184.f (l0 : List S82) : Option (List S82) := if l0.length ≤ 1000000000000 then some l0 else none
set_option maxHeartbeats 4000000 in
theorem impl_Cell_184.calls (A0 : Option Addr) (c0 : Nat) (l0 : List S82) (r : List S82) (w : World) (hr0 : Kd.C k82 w A0 l0.length l0) (hc0 : l0.length ≤ c0) (h : impl_Cell_184.f l0 = some r) :
    Calls Tryz.prog 184 #[.slice A0 l0.length c0] w fun e w' => ∃ v0_ : Value, e = .returned (v0_) ∧ Kd.R k82 82 w' w.heap.size (fun _ => True) v0_ r ∧ Below w.heap.size w w' := by
  unfold impl_Cell_184.f at h
  by_cases hl : l0.length ≤ 1000000000000
  · rw [if_pos hl] at h
    obtain rfl := Option.some.inj h
    have q22 : ∀ (w : World) (a : Option Addr) (n c n' c' : Nat), (binOp .eql 28 (.slice a n c) (.slice none n' c')).run Tryz.prog w = .ok (.bool a.isNone) w := fun w a n c n' c' => Lib.run_eql_slice_nil w _ _ a n c n' c' Tryz.underlying28
    have u22 : ∀ w, Sem.run Tryz.prog (underlying 28) w = .ok (TypeDesc.slice 82) w := run_underlying Tryz.underlying28
    cases A0 with
    | none =>
      have h0 : l0 = [] := by
        refine List.length_eq_zero_iff.1 (Nat.eq_zero_of_not_pos fun hp => ?_)
        obtain ⟨ad, he, _⟩ := hr0.2.2 hp
        cases he
      subst h0
      clear hr0
      go_enter Tryz.func184, Tryz.ntmps184
      go_wp2
      go_ret
      exact ⟨_, rfl, Kd.R_nil _ _ _ _ _, Below.refl _ _⟩
    | some ad =>
      obtain ⟨inner, hreps, hcell⟩ := ReadsRow.inner_ hr0
      obtain ⟨i0, hi, hzz⟩ := Option.map_eq_some_iff.1 info82
      simp only [Prod.mk.injEq] at hzz
      obtain ⟨hz0, hz1, hz2⟩ := hzz
      have hil : inner.length = l0.length * 2 := hreps.1
      have h1 : ∀ u ∈ inner, u.oneCell' = true := by
        intro u hu
        obtain ⟨j, hj, e⟩ := List.getElem_of_mem hu
        have hjl : j / 2 < l0.length := by omega
        have hk := hreps.2 (j / 2) l0[j / 2] (List.getElem?_eq_getElem hjl)
        refine k82.K_one hk u ?_
        refine List.mem_of_getElem? (i := j % 2) ?_
        rw [List.getElem?_take_of_lt (show j % 2 < k82.sz from Nat.mod_lt _ (by decide)), List.getElem?_drop]
        rw [show j / 2 * k82.sz + j % 2 = j from by show j / 2 * 2 + j % 2 = j; omega, List.getElem?_eq_getElem hj, e]
      have A := aM hcell
      have HR := aM hreps
      have H1 := aM h1
      clear hr0 hcell hreps h1
      go_enter Tryz.func184, Tryz.ntmps184
      go_wp2_with (at_builtin; refine wpList_append_own _ rfl _ _ 28 rfl w.heap.size 82 i0 _ 2 16 Tryz.underlying28 hi hz0 hz1 hz2 rfl (by decide) _ _ _ rfl (World.ownsRow_made w #[] 0 (Nat.le_refl _) (Nat.zero_le _) (by simp)) ad l0.length c0 inner rfl ?qc1 ?qc2 ?qc3 ?qc4 ?qc5 ?qc6 ?_)
      (try case qc1 => exact hil)
      case qc2 =>
        intro j u hj
        exact Lib.cell?_alloc_some _ (A.out j u hj)
      case qc3 => exact H1.out
      case qc4 => simp only [maxLen]; omega
      case qc5 => omega
      (try case qc6 => simp)
      intro v' w1 hown hgrow hnil
      go_wp2
      go_ret
      have hB : Below w.heap.size w w1 := ((Below.refl _ w).alloc (Nat.le_refl _) _).grown hgrow (by simp) (by intro k hk; simp [Value.ownBlock] at hk; omega)
      refine ⟨v', rfl, ⟨fun _ _ => trivial, inner, (show w1.ownsRow w.heap.size 82 2 v' l0.length inner by simpa using hown), HR.out.1, fun j p hp => ?_⟩, hB⟩
      obtain ⟨c1, c2, e, e1, e2⟩ := HR.out.2 j p hp
      exact ⟨c1, c2, e, e1, e2⟩
  · rw [if_neg hl] at h
    exact absurd h (by simp)
def impl_sorted.f (l0 : List (S82)) : Option ((List (S82))) := (impl_Cell_184.f l0).bind fun t464 => ((impl_Cell_185__impl_compareCells.f t464).bind fun t467 => (some t467))
theorem impl_sorted.calls (A0 : Option Addr) (c0 : Nat) (l0 : List (S82)) (r : List (S82)) (w : World) (hr0 : Kd.C k82 w A0 l0.length l0) (hc0 : l0.length ≤ c0) (h : impl_sorted.f l0 = some r) :
  Calls Tryz.prog 167 #[.slice A0 l0.length c0] w fun e w' => ∃ v0_ : Value, e = .returned (v0_) ∧ Kd.R k82 82 w' w.heap.size (fun _ => True) v0_ r ∧ Below w.heap.size w w' := by
 have HR0 := aM hr0
 have HC0 := aM hc0
 clear hr0 hc0
 have HB := aM (Below.refl w.heap.size w)
 have H : ((impl_Cell_184.f l0).bind fun t464 => ((impl_Cell_185__impl_compareCells.f t464).bind fun t467 => (some t467))) = some r := h
 clear h
 replace H := Option.bind_eq_some_iff.mp H
 obtain ⟨t464, A20, H⟩ := H
 replace H : ((impl_Cell_185__impl_compareCells.f t464).bind fun t467 => (some t467)) = some r := H
 have A2 := aM A20
 clear A20
 replace H := Option.bind_eq_some_iff.mp H
 obtain ⟨t467, A30, H⟩ := H
 replace H : (some t467) = some r := H
 have A3 := aM A30
 clear A30
 obtain rfl := Option.some.inj H
 go_enter Tryz.func167, Tryz.ntmps167
 go_wp2_with (first | ((with_reducible refine gate_callee (f := 184) rfl ?_); refine goesL_ (some 5) rfl rfl Tryz.func184 (by kernel_rfl) rfl #[.slice A0 l0.length c0] rfl zm ?_; (with_reducible refine (impl_Cell_184.calls _ _ l0 t464 _ ?side1 ?side2 A2.out).mono ?_); (case side1 => repeat (first | exact HR0.out | (with_reducible refine Kd.C_alloc ?_ _) | (with_reducible refine Kd.C_drewN ?_ _) | (with_reducible refine Kd.C_drew ?_))); (case side2 => exact HC0.out); rintro e w4 ⟨v465, rfl, ho0, hb⟩; refine ⟨_, rfl, ?_⟩; have _ := aM (Kd.R_lower ho0 (below_size zb)); have _ := aM (below_step zb hb); clear HB; rename_i HO466 HB; (try clear hb); (try clear hb2); (try clear hk); (try clear hi); (try clear ho0); obtain ⟨Ao5, co5, eo5⟩ := Kd.R_slice HO466.out; subst eo5) | ((with_reducible refine gate_callee (f := 185) rfl ?_); refine goesL_ (some 7) rfl rfl Tryz.func185 (by kernel_rfl) rfl #[.slice Ao5 t464.length co5, .func (.func 98) #[] #[]] rfl zm ?_; (with_reducible refine (impl_Cell_185__impl_compareCells.calls (fun k_ => some k_ = (.slice Ao5 t464.length co5 : Value).ownBlock) (.slice Ao5 t464.length co5) t464  t467 w _ ?side1 ?side2 A3.out).mono ?_); (case side1 => repeat (first | (with_reducible first | exact HB.out | apply below_alloc | apply pw_below_drewN | apply below_drew1) | exact HB.out)); (case side2 => exact Kd.R_tight rfl HO466.out); rintro e w6 ⟨rfl, hy0, hb, hkp⟩; refine ⟨_, rfl, ?_⟩; have _ := aM (Kd.R_reok rfl hy0 (fun k_ e_ => HO466.out.1 k_ e_)); have _ := aM (hb); clear HO466 HB; rename_i HO466 HB; (try clear hb); (try clear hkp); (try clear hy0)))
 go_ret
 exact ⟨_, zw, mR_ HO466.out, zb⟩
def impl_form.l0 : Nat → Int → List (S82) → List (S82) → Int → Int → Option ((List (S82)))
 | 0, _, _, _, _, _ => none
 | k + 1, x1, x5, x11, x12, x13 => if x13 < x12 then (if 0 ≤ x13 then (if x13 < (x11.length : Int) then ((impl_turnCell.f k ((rd_T82 x11 x13).f0) ((rd_T82 x11 x13).f1) x1).bind fun bt473 => (if x5.length < 8796093022208 then (impl_form.l0 k x1 (x5 ++ [(⟨bt473.1, bt473.2⟩ : S82)]) x11 x12 (wrap64 (x13 + 1))) else (none))) else (none)) else (none)) else ((impl_sorted.f x5).bind fun t478 => ((impl_normal.f k t478).bind fun t481 => (some t481)))
def impl_form.f (k : Nat) (l0 : List (S82)) (a1 : Int) : Option ((List (S82))) := if 0 ≤ (l0.length : Int) then (if ((l0.length : Int) : Int).toNat ≤ 17592186044416 then (impl_form.l0 k a1 (([] : List (S82))) l0 (l0.length : Int) 0) else (none)) else (none)
theorem impl_form.calls (k : Nat) (A0 : Option Addr) (c0 : Nat) (l0 : List (S82)) (a1 : Int) (r : List (S82)) (w : World) (hr0 : Kd.C k82 w A0 l0.length l0) (hc0 : l0.length ≤ c0) (h : impl_form.f k l0 a1 = some r) :
  Calls Tryz.prog 146 #[.slice A0 l0.length c0, .int .i64 a1] w fun e w' => ∃ v0_ : Value, e = .returned (v0_) ∧ Kd.R k82 82 w' w.heap.size (fun _ => True) v0_ r ∧ Below w.heap.size w w' := by
 have hu82 := Tryz.underlying82
 have HR0 := aM hr0
 have HC0 := aM hc0
 clear hr0 hc0
 have HB := aM (Below.refl w.heap.size w)
 have H : (if 0 ≤ (l0.length : Int) then (if ((l0.length : Int) : Int).toNat ≤ 17592186044416 then (impl_form.l0 k a1 (([] : List (S82))) l0 (l0.length : Int) 0) else (none)) else (none)) = some r := h
 clear h
 by_cases c3 : 0 ≤ (l0.length : Int)
 rotate_left
 ·rw [if_neg c3] at H
  exact absurd H (by simp)
 rw [if_pos c3] at H
 have c3b0 := eq_true c3
 have c3b1 : decide (0 ≤ (l0.length : Int)) = true := decide_eq_true c3
 clear c3
 by_cases c4 : ((l0.length : Int) : Int).toNat ≤ 17592186044416
 rotate_left
 ·rw [if_neg c4] at H
  exact absurd H (by simp)
 rw [if_pos c4] at H
 have c4b0 := eq_true c4
 have c4b1 : decide (((l0.length : Int) : Int).toNat ≤ 17592186044416) = true := decide_eq_true c4
 clear c4
 obtain ⟨y468, hy468⟩ : ∃ y_ : List (S82), y_ = (([] : List (S82))) := ⟨_, rfl⟩
 replace H : (impl_form.l0 k a1 y468 l0 (l0.length : Int) 0) = some r := zy H hy468
 have Ny468 := aM hy468
 clear hy468
 have H' := aM H
 clear H
 go_enter Tryz.func146, Tryz.ntmps146
 go_wp2_with (first | ((with_reducible refine gate_dst (N := 10) rfl ?_); refine Kd.R_make0 k82 _ 82 rfl (N := 10) rfl 28 _ _ rfl (l0.length : Int) rfl rfl Tryz.underlying28 (.agg #[(.int .i64 0), (.int .i64 0)]) 16 info82 rfl (by decide) (by omega) z82 (ok := fun _ => True) (okp := fun _ => True) (k82_mkM _ _ _ z82 ) (fun _ hk => hk) trivial (of_decide_eq_true za) (Nat.le_trans (Nat.mul_le_mul_right _ (of_decide_eq_true za : (l0.length : Int).toNat ≤ 17592186044416)) (by omega)) (Below.refl _ _) (Nat.le_refl _) ?_; intro v469 w5 ho6 hb hg_ hnew_; clear hg_ hnew_; (first | rw [← Ny468.out] at ho6 | (simp only [Int.reduceToNat] at ho6; rw [← Ny468.out] at ho6)); have _ := aM (Kd.R_lower ho6 (below_size zb)); have _ := aM (below_step zb hb); clear HB; rename_i HO470 HB; clear hb ho6))
 go_loopg [5, 13] k (fun kq v5 v13 w' => ∃ (x5_1 : List (S82)) (x13_1 : Int), v13 = .int .i64 x13_1 ∧ Aside0 (impl_form.l0 kq a1 x5_1 l0 (l0.length : Int) x13_1 = some r) ∧ Aside0 (kq ≤ k) ∧ Aside0 (Kd.R k82 82 w' w.heap.size (fun _ => True) v5 x5_1) ∧ Aside0 (Below w.heap.size w w'))
 case atStart => exact ⟨(y468), (0), zr, H', ⟨Nat.le_refl _⟩, ⟨mR_ HO470.out⟩, ⟨zb⟩⟩
 case round =>
  clear H'
  try clear c1
  try clear p2
  try clear c3
  try clear c3b0
  try clear c3b1
  try clear c4
  try clear c4b0
  try clear c4b1
  obtain ⟨x5_1, x13_1, rfl, HA, HK1, HO_5, HB⟩ := hrel
  cases gk with
  | zero => exact absurd HA.out (by simp [impl_form.l0])
  | succ k1 =>
   have H := HA.out
   clear HA
   simp only [impl_form.l0] at H
   by_cases c7 : x13_1 < (l0.length : Int)
   rotate_left
   ·rw [if_neg c7] at H
    have c7b0 : decide (x13_1 < (l0.length : Int)) = false := decide_eq_false c7
    clear c7
    replace H := Option.bind_eq_some_iff.mp H
    obtain ⟨t478, A160, H⟩ := H
    replace H : ((impl_normal.f k1 t478).bind fun t481 => (some t481)) = some r := H
    have A16 := aM A160
    clear A160
    replace H := Option.bind_eq_some_iff.mp H
    obtain ⟨t481, A170, H⟩ := H
    replace H : (some t481) = some r := H
    have A17 := aM A170
    clear A170
    obtain rfl := Option.some.inj H
    obtain ⟨Ao18, co18, eo18⟩ := Kd.R_slice HO_5.out
    subst eo18
    go_wp2_with (first | ((with_reducible refine gate_callee (f := 167) rfl ?_); refine goesL_ (some 25) rfl rfl Tryz.func167 (by kernel_rfl) rfl #[.slice Ao18 x5_1.length co18] rfl zm ?_; (with_reducible refine (impl_sorted.calls _ _ x5_1 t478 _ ?side1 ?side2 A16.out).mono ?_); (case side1 => exact zc HO_5.out); (case side2 => exact (Kd.R_reads' HO_5.out).2.1); rintro e w19 ⟨v479, rfl, ho0, hb⟩; refine ⟨_, rfl, ?_⟩; have _ := aM (Kd.R_elder' (mR_ HO_5.out) (Kd.R_base ho0) hb); have _ := aM (Kd.R_lower (Kd.R_new' ho0 (Kd.R_lt (mR_ HO_5.out))) (below_size zb)); have _ := aM (below_step zb hb); clear HO_5 HB; rename_i HO_5 HO480 HB; (try clear hb); (try clear hb2); (try clear hk); (try clear hi); (try clear ho0); obtain ⟨Ao20, co20, eo20⟩ := Kd.R_slice HO480.out; subst eo20) | ((with_reducible refine gate_callee (f := 88) rfl ?_); refine goesL_ (some 26) rfl rfl Tryz.func88 (by kernel_rfl) rfl #[.slice Ao20 t478.length co20] rfl zm ?_; (with_reducible refine (impl_normal.calls k1 _ _ t478 t481 _ ?side1 ?side2 A17.out).mono ?_); (case side1 => exact zc HO480.out); (case side2 => exact (Kd.R_reads' HO480.out).2.1); rintro e w21 ⟨v482, rfl, ho0, hb⟩; refine ⟨_, rfl, ?_⟩; have _ := aM (Kd.R_elder' (mR_ HO_5.out) (Kd.R_base ho0) hb); have _ := aM (Kd.R_elder' (mR_ HO480.out) (Kd.R_base ho0) hb); have _ := aM (Kd.R_lower (Kd.R_new' (Kd.R_new' ho0 (Kd.R_lt (mR_ HO_5.out))) (Kd.R_lt (mR_ HO480.out))) (below_size zb)); have _ := aM (below_step zb hb); clear HO_5 HO480 HB; rename_i HO_5 HO480 HO483 HB; (try clear hb); (try clear hb2); (try clear hk); (try clear hi); (try clear ho0)))
    go_ret
    exact ⟨_, zw, zd0 HO483.out, zb⟩
   rw [if_pos c7] at H
   have c7b0 : decide (x13_1 < (l0.length : Int)) = true := decide_eq_true c7
   clear c7
   by_cases c8 : 0 ≤ x13_1
   rotate_left
   ·rw [if_neg c8] at H
    exact absurd H (by simp)
   rw [if_pos c8] at H
   have c8b0 : decide (0 ≤ x13_1) = true := decide_eq_true c8
   clear c8
   by_cases c9 : x13_1 < (l0.length : Int)
   rotate_left
   ·rw [if_neg c9] at H
    exact absurd H (by simp)
   rw [if_pos c9] at H
   have c9b0 : decide (x13_1 < (l0.length : Int)) = true := decide_eq_true c9
   clear c9
   replace H := Option.bind_eq_some_iff.mp H
   obtain ⟨⟨t473, t474⟩, A100, H⟩ := H
   replace H : (if x5_1.length < 8796093022208 then (impl_form.l0 k1 a1 (x5_1 ++ [(⟨t473, t474⟩ : S82)]) l0 (l0.length : Int) (wrap64 (x13_1 + 1))) else (none)) = some r := H
   have A10 := aM A100
   clear A100
   by_cases c11 : x5_1.length < 8796093022208
   rotate_left
   ·rw [if_neg c11] at H
    exact absurd H (by simp)
   rw [if_pos c11] at H
   have LMc11 := aM c11
   clear c11
   obtain ⟨y475, hy475⟩ : ∃ y_ : List (S82), y_ = (x5_1 ++ [(⟨t473, t474⟩ : S82)]) := ⟨_, rfl⟩
   replace H : (impl_form.l0 k1 a1 y475 l0 (l0.length : Int) (wrap64 (x13_1 + 1))) = some r := zy H hy475
   have Ny475 := aM hy475
   clear hy475
   have H' := aM H
   clear H
   have p471 : 0 ≤ (x13_1 : Int) := of_decide_eq_true za
   have q471 : x13_1 < (l0.length : Int) := of_decide_eq_true za
   obtain ⟨ad471, e471, hx471_0, hx471_1⟩ := at_T82 HR0.out x13_1 p471 q471
   cases e471
   replace hx471_0 := zk HB.out hx471_0
   replace hx471_1 := zk HB.out hx471_1
   replace p471 := eq_true p471
   replace q471 := eq_true q471
   go_wp2_with (first | ((with_reducible refine gate_dst (N := 7) rfl ?_); refine zx 7 #[.int .i64 0, .int .i64 0] 82 ?_; intro gb472 hg w12 hbox hb; have _ := aM (Kd.R_below (Kd.R_elderB (mR_ HO_5.out) gb472 (Nat.le_of_eq hg.symm)) hb); have _ := aM (below_step zb hb); have _ := aM (hbox); have _ := aM ((ze : w.heap.size ≤ gb472)); have _ := aM ((ze : w.heap.size ≤ gb472)); clear HO_5 HB; rename_i HO_5 HB BK472 GW472 GE472; clear hb hbox hg; obtain ⟨hcz13_0, hcz13_1, hfz13_0, hfz13_1⟩ := zQ2 BK472.out) | ((with_reducible refine gate_callee (f := 166) rfl ?_); refine goesL_ (some 20) rfl rfl Tryz.func166 (by kernel_rfl) rfl #[.agg #[.int .i64 ((rd_T82 l0 x13_1).f0), .int .i64 ((rd_T82 l0 x13_1).f1)], .int .i64 a1] rfl zm ?_; (with_reducible refine (impl_turnCell.calls k1 ((rd_T82 l0 x13_1).f0) ((rd_T82 l0 x13_1).f1) a1 t473 t474 _ A10.out).mono ?_); rintro e w14 ⟨rfl, hb⟩; refine ⟨_, rfl, ?_⟩; have _ := aM (Kd.R_below (by (with_reducible repeat (first | apply Kd.R_alloc | apply Kd.R_drewN | apply Kd.R_drew)); exact (Kd.R_mono (Kd.R_far (p := ⟨gb472, 1, none⟩) (Kd.R_far (p := ⟨gb472, 0, none⟩) (Kd.R_mono HO_5.out (fun k_ hk => (⟨hk, hk.2⟩ : _ ∧ k_ ≠ gb472))) (fun _ hk => hk.2) (.int .i64 ((rd_T82 l0 x13_1).f0))) (fun _ hk => hk.2) (.int .i64 ((rd_T82 l0 x13_1).f1))) (fun _ h_ => h_.1))) hb); have _ := aM (blk_below (g := gb472) (o := .cells #[.int .i64 ((rd_T82 l0 x13_1).f0), .int .i64 ((rd_T82 l0 x13_1).f1)] 82 (0, 0)) (by (with_reducible repeat (first | refine blk_drewN ?_ _ | refine blk_drew ?_ | refine blk_alloc ?_ _)); refine blk_put (cs := #[.int .i64 ((rd_T82 l0 x13_1).f0), .int .i64 0]) ?_ 1 _ rfl; (with_reducible repeat (first | refine blk_drewN ?_ _ | refine blk_drew ?_ | refine blk_alloc ?_ _)); refine blk_put (cs := #[.int .i64 0, .int .i64 0]) ?_ 0 _ rfl; (with_reducible repeat (first | refine blk_drewN ?_ _ | refine blk_drew ?_ | refine blk_alloc ?_ _)); exact BK472.out) hb); have _ := aM (below_step (zs GE472.out) hb); clear HO_5 BK472 HB; rename_i HO_5 BK472 HB; (try clear hb); (try clear hb2); (try clear hk); (try clear hi)) | ((with_reducible refine gate_builtin (b := .append) (xs := #[.tmp 17, .tmp 21]) rfl ?_); at_builtin; refine Kd.R_append k82 (w0 := w) w.heap.size rfl (.tmp 17) (.tmp 21) 28 82 (.agg #[(.int .i64 0), (.int .i64 0)]) 16 rfl Tryz.underlying28 info82 rfl (by decide) (by omega) u5 x5_1 (⟨t473, t474⟩ : S82) [.int .i64 t473, .int .i64 t474] (fun k_ => k_ ≠ gb472) (fun _ => False) rfl rfl ?aP (fun _ hk => hk.elim) ?aF ?aO ?aB ?aS ?aL ?_; (case aP => exact k82_mkM _ _ _ (⟨t473, t474⟩ : S82)); (case aB => exact (zs GE472.out)); (case aF => exact (fun k_ hk => Kd.freshB (g := gb472) (o := .cells #[.int .i64 ((rd_T82 l0 x13_1).f0), .int .i64 ((rd_T82 l0 x13_1).f1)] 82 (0, 0)) (mB_ BK472.out) k_ hk)); (case aO => exact (zd1 HO_5.out)); (case aS => exact (below_size (zs GE472.out))); (case aL => have := LMc11.out; omega); intro v476 w15 ho hb hg hat; rw [← Ny475.out] at ho; have _ := aM (blk_grown (g := gb472) (o := .cells #[.int .i64 ((rd_T82 l0 x13_1).f0), .int .i64 ((rd_T82 l0 x13_1).f1)] 82 (0, 0)) (mB_ BK472.out) hg (Kd.R_away HO_5.out (fun _ hk => hk.2))); have _ := aM (hb); have _ := aM (ho); clear BK472 HB HO_5; rename_i BK472 HB HO477; clear ho hb hg hat))
   go_roundg k1
   case measure => have := HK1.out; omega
   case rel => exact ⟨(y475), (wrap64 (x13_1 + 1)), zr, H', ⟨by have := HK1.out; omega⟩, ⟨zd0 HO477.out⟩, ⟨zs GE472.out⟩⟩
def impl_forms.l0 : Nat → List (S82) → List (List (S82)) → Int → Int → Option ((List (List (S82))))
 | 0, _, _, _, _ => none
 | k + 1, x0, x5, x8, x9 => if x9 < x8 then ((impl_form.f k x0 x9).bind fun t487 => (if x5.length < 5864062014805 then (impl_forms.l0 k x0 (x5 ++ [t487]) x8 (wrap64 (x9 + 1))) else (none))) else (some x5)
def impl_forms.f (k : Nat) (l0 : List (S82)) (a1 : Int) : Option ((List (List (S82)))) := impl_forms.l0 k l0 (([] : List (List (S82)))) a1 0
theorem impl_forms.calls (k : Nat) (A0 : Option Addr) (c0 : Nat) (l0 : List (S82)) (a1 : Int) (r : List (List (S82))) (w : World) (hr0 : Kd.C k82 w A0 l0.length l0) (hc0 : l0.length ≤ c0) (h : impl_forms.f k l0 a1 = some r) :
  Calls Tryz.prog 113 #[.slice A0 l0.length c0, .int .i64 a1] w fun e w' => ∃ v0_ : Value, e = .returned (v0_) ∧ Kd.S (Kd.slice 82 k82) 28 w' w.heap.size (fun _ => True) v0_ r ∧ Below w.heap.size w w' := by
 have HR0 := aM hr0
 have HC0 := aM hc0
 clear hr0 hc0
 have HB := aM (Below.refl w.heap.size w)
 have H : (impl_forms.l0 k l0 (([] : List (List (S82)))) a1 0) = some r := h
 clear h
 obtain ⟨y484, hy484⟩ : ∃ y_ : List (List (S82)), y_ = (([] : List (List (S82)))) := ⟨_, rfl⟩
 replace H : (impl_forms.l0 k l0 y484 a1 0) = some r := zy H hy484
 have Ny484 := aM hy484
 clear hy484
 have H' := aM H
 clear H
 go_enter Tryz.func113, Tryz.ntmps113
 go_wp2_with (first | ((with_reducible refine gate_dst (N := 7) rfl ?_); refine Kd.S_lit (Kd.slice 82 k82) _ 28 ?hg (N := 7) ?hd (xs := ([] : List (List (S82)))) (inner := []) (ok := fun _ => True) (okp := fun _ => True) ?hr ?hp (fun _ hk => hk) trivial (Below.refl _ _) (Nat.le_refl _) (by simp) ?_; (case hd => rfl); (case hg => rfl); (case hr => first | (go_simp; done) | (go_simp; rfl)); (case hp => exact (Reps.none _ _)); intro v485 w3 ho4 hb hg_ hnew_; clear hg_ hnew_; (first | rw [← Ny484.out] at ho4 | (simp only [Int.reduceToNat] at ho4; rw [← Ny484.out] at ho4)); have _ := aM (Kd.S_lower ho4 (below_size zb)); have _ := aM (below_step zb hb); clear HB; rename_i HO486 HB; clear hb ho4))
 go_loopg [5, 9] k (fun kq v5 v9 w' => ∃ (x5_1 : List (List (S82))) (x9_1 : Int), v9 = .int .i64 x9_1 ∧ Aside0 (impl_forms.l0 kq l0 x5_1 a1 x9_1 = some r) ∧ Aside0 (kq ≤ k) ∧ Aside0 (Kd.S (Kd.slice 82 k82) 28 w' w.heap.size (fun _ => True) v5 x5_1) ∧ Aside0 (Below w.heap.size w w'))
 case atStart => exact ⟨(y484), (0), zr, H', ⟨Nat.le_refl _⟩, ⟨mS_ HO486.out⟩, ⟨zb⟩⟩
 case round =>
  clear H'
  try clear c1
  try clear p2
  obtain ⟨x5_1, x9_1, rfl, HA, HK1, HO_5, HB⟩ := hrel
  cases gk with
  | zero => exact absurd HA.out (by simp [impl_forms.l0])
  | succ k1 =>
   have H := HA.out
   clear HA
   simp only [impl_forms.l0] at H
   by_cases c5 : x9_1 < a1
   rotate_left
   ·rw [if_neg c5] at H
    have c5b0 : decide (x9_1 < a1) = false := decide_eq_false c5
    clear c5
    obtain rfl := Option.some.inj H
    go_wp2
    go_ret
    exact ⟨_, zw, mS_ HO_5.out, zb⟩
   rw [if_pos c5] at H
   have c5b0 : decide (x9_1 < a1) = true := decide_eq_true c5
   clear c5
   replace H := Option.bind_eq_some_iff.mp H
   obtain ⟨t487, A60, H⟩ := H
   replace H : (if x5_1.length < 5864062014805 then (impl_forms.l0 k1 l0 (x5_1 ++ [t487]) a1 (wrap64 (x9_1 + 1))) else (none)) = some r := H
   have A6 := aM A60
   clear A60
   by_cases c7 : x5_1.length < 5864062014805
   rotate_left
   ·rw [if_neg c7] at H
    exact absurd H (by simp)
   rw [if_pos c7] at H
   have LMc7 := aM c7
   clear c7
   obtain ⟨y490, hy490⟩ : ∃ y_ : List (List (S82)), y_ = (x5_1 ++ [t487]) := ⟨_, rfl⟩
   replace H : (impl_forms.l0 k1 l0 y490 a1 (wrap64 (x9_1 + 1))) = some r := zy H hy490
   have Ny490 := aM hy490
   clear hy490
   have H' := aM H
   clear H
   go_wp2_with (first | ((with_reducible refine gate_callee (f := 146) rfl ?_); refine goesL_ (some 15) rfl rfl Tryz.func146 (by kernel_rfl) rfl #[.slice A0 l0.length c0, .int .i64 x9_1] rfl zm ?_; (with_reducible refine (impl_form.calls k1 _ _ l0 x9_1 t487 _ ?side1 ?side2 A6.out).mono ?_); (case side1 => repeat (first | exact (Kd.C_below HR0.out HB.out) | (with_reducible refine Kd.C_alloc ?_ _) | (with_reducible refine Kd.C_drewN ?_ _) | (with_reducible refine Kd.C_drew ?_))); (case side2 => exact HC0.out); rintro e w8 ⟨v488, rfl, ho0, hb⟩; refine ⟨_, rfl, ?_⟩; have _ := aM (Kd.S_elder' (mS_ HO_5.out) (Kd.R_base ho0) hb); have _ := aM (Kd.R_lower ho0 (below_size zb)); have _ := aM (below_step zb hb); clear HO_5 HB; rename_i HO_5 HO489 HB; (try clear hb); (try clear hb2); (try clear hk); (try clear hi); (try clear ho0); obtain ⟨Ao10, co10, eo10⟩ := Kd.R_slice HO489.out; subst eo10) | ((with_reducible refine gate_builtin (b := .append) (xs := #[.tmp 12, .tmp 16]) rfl ?_); at_builtin; refine Kd.S_append (Kd.slice 82 k82) (w0 := w) w.heap.size rfl (.tmp 12) (.tmp 16) 97 28 (.slice none 0 0) 24 rfl Tryz.underlying97 info28 rfl (by decide) (by omega) u5 x5_1 t487 [.slice Ao10 t487.length co10] (fun _ => True) (fun k_ => some k_ = (.slice Ao10 t487.length co10 : Value).ownBlock) rfl rfl ?aP (fun k_ hk_ => ((Kd.R_mono (ok' := fun k_ => ((fun _ => True)) k_ ∧ some k_ ≠ (u5 : Value).ownBlock) (Kd.R_apart' (HO489.out) (Kd.S_typed HO_5.out) (by decide)) (fun k_ hk => ⟨trivial, hk.2⟩))).1 k_ hk_.symm) ?aF ?aO ?aB ?aS ?aL ?_; (case aP => exact Kd.M_row (Kd.R_mono (Kd.R_tight rfl (Kd.R_mono (ok' := fun k_ => ((fun _ => True)) k_ ∧ some k_ ≠ (u5 : Value).ownBlock) (Kd.R_apart' (HO489.out) (Kd.S_typed HO_5.out) (by decide)) (fun k_ hk => ⟨trivial, hk.2⟩))) (fun _ h_ => h_))); (case aB => exact zb); (case aF => exact (fun _ _ => trivial)); (case aO => exact (by (with_reducible repeat (first | apply Kd.S_alloc | apply Kd.S_drewN | apply Kd.S_drew)); exact Kd.S_mono HO_5.out (fun k_ hk => ⟨trivial, fun e_ => hk.2 e_⟩))); (case aS => exact (below_size zb)); (case aL => have := LMc7.out; omega); intro v491 w9 ho hb hg hat; rw [← Ny490.out] at ho; have _ := aM (hb); have _ := aM (ho); clear HB HO_5 HO489; rename_i HB HO492; clear ho hb hg hat))
   go_roundg k1
   case measure => have := HK1.out; omega
   case rel => exact ⟨(y490), (wrap64 (x9_1 + 1)), zr, H', ⟨by have := HK1.out; omega⟩, ⟨mS_ HO492.out⟩, ⟨zb⟩⟩
def impl_formsOf.f (k : Nat) (l0_0 : List (S82)) (a0_1 : Int) (a0_2 : Bool) : Option ((List (List (S82)))) := if a0_2 = true then ((impl_forms.f k l0_0 8).bind fun t494 => ((impl_tidyShapes.f t494).bind fun t497 => (some t497))) else ((impl_forms.f k l0_0 4).bind fun t500 => ((impl_tidyShapes.f t500).bind fun t503 => (some t503)))
theorem impl_formsOf.calls (k : Nat) (A0_0 : Option Addr) (c0_0 : Nat) (l0_0 : List (S82)) (a0_1 : Int) (a0_2 : Bool) (r : List (List (S82))) (w : World) (hr0_0 : Kd.C k82 w A0_0 l0_0.length l0_0) (hc0_0 : l0_0.length ≤ c0_0) (h : impl_formsOf.f k l0_0 a0_1 a0_2 = some r) :
  Calls Tryz.prog 78 #[.agg #[.slice A0_0 l0_0.length c0_0, .int .i64 a0_1, .bool a0_2]] w fun e w' => ∃ v0_ : Value, e = .returned (v0_) ∧ Kd.S (Kd.slice 82 k82) 28 w' w.heap.size (fun _ => True) v0_ r ∧ Below w.heap.size w w' := by
 have hu50 := Tryz.underlying50
 have HR0_0 := aM hr0_0
 have HC0_0 := aM hc0_0
 clear hr0_0 hc0_0
 have HB := aM (Below.refl w.heap.size w)
 have H : (if a0_2 = true then ((impl_forms.f k l0_0 8).bind fun t494 => ((impl_tidyShapes.f t494).bind fun t497 => (some t497))) else ((impl_forms.f k l0_0 4).bind fun t500 => ((impl_tidyShapes.f t500).bind fun t503 => (some t503)))) = some r := h
 clear h
 by_cases c2 : a0_2 = true
 ·subst c2
  have H1 : ((impl_forms.f k l0_0 8).bind fun t494 => ((impl_tidyShapes.f t494).bind fun t497 => (some t497))) = some r := by rw [if_pos rfl] at H; exact H
  clear H
  have H := H1
  clear H1
  replace H := Option.bind_eq_some_iff.mp H
  obtain ⟨t494, A30, H⟩ := H
  replace H : ((impl_tidyShapes.f t494).bind fun t497 => (some t497)) = some r := H
  have A3 := aM A30
  clear A30
  replace H := Option.bind_eq_some_iff.mp H
  obtain ⟨t497, A40, H⟩ := H
  replace H : (some t497) = some r := H
  have A4 := aM A40
  clear A40
  obtain rfl := Option.some.inj H
  go_enter Tryz.func78, Tryz.ntmps78
  go_wp2_with (first | ((with_reducible refine gate_dst (N := 1) rfl ?_); refine zx 1 #[.slice A0_0 l0_0.length c0_0, .int .i64 a0_1, .bool true] 50 ?_; intro gb493 hg w5 hbox hb; have _ := aM (below_step zb hb); have _ := aM (hbox); have _ := aM ((ze : w.heap.size ≤ gb493)); have _ := aM ((ze : w.heap.size ≤ gb493)); clear HB; rename_i HB BK493 GW493 GE493; clear hb hbox hg; obtain ⟨hcz6_0, hcz6_1, hcz6_2, hfz6_0, hfz6_1, hfz6_2⟩ := zQ3 BK493.out) | ((with_reducible refine gate_callee (f := 113) rfl ?_); refine goesL_ (some 9) rfl rfl Tryz.func113 (by kernel_rfl) rfl #[.slice A0_0 l0_0.length c0_0, .int .i64 8] rfl zm ?_; (with_reducible refine (impl_forms.calls k _ _ l0_0 8 t494 _ ?side1 ?side2 A3.out).mono ?_); (case side1 => repeat (first | exact (Kd.C_below HR0_0.out HB.out) | (with_reducible refine Kd.C_alloc ?_ _) | (with_reducible refine Kd.C_drewN ?_ _) | (with_reducible refine Kd.C_drew ?_))); (case side2 => exact HC0_0.out); rintro e w7 ⟨v495, rfl, ho0, hb⟩; refine ⟨_, rfl, ?_⟩; have _ := aM (Kd.S_lower ho0 (below_size (zs GE493.out))); have _ := aM (blk_below (g := gb493) (o := .cells #[.slice A0_0 l0_0.length c0_0, .int .i64 a0_1, .bool true] 50 (0, 0)) (mB_ BK493.out) hb); have _ := aM (below_step (zs GE493.out) hb); clear BK493 HB; rename_i HO496 BK493 HB; (try clear hb); (try clear hb2); (try clear hk); (try clear hi); (try clear ho0); obtain ⟨Ao8, co8, eo8⟩ := Kd.S_slice HO496.out; subst eo8) | ((with_reducible refine gate_callee (f := 112) rfl ?_); refine goesL_ (some 10) rfl rfl Tryz.func112 (by kernel_rfl) rfl #[.slice Ao8 t494.length co8] rfl zm ?_; (with_reducible refine (impl_tidyShapes.calls (fun k_ => True) (.slice Ao8 t494.length co8) t494 t497 w _ ?side1 ?side2 A4.out).mono ?_); (case side1 => repeat (first | (with_reducible first | exact HB.out | apply below_alloc | apply pw_below_drewN | apply below_drew1 | refine below_set ?_ GE493.out) | exact HB.out)); (case side2 => exact HO496.out); rintro e w9 ⟨v498, rfl, ho0, hb, hkp⟩; refine ⟨_, rfl, ?_⟩; have _ := aM (blk_kept (mB_ BK493.out) hkp (fun hs_ => (fun e_ => (Kd.S_ne HO496.out BK493.out (by decide)) e_) hs_)); have _ := aM (Kd.S_mono (ok' := fun k_ => True) ho0 (fun k_ hk_ => trivial)); have _ := aM (hb); clear BK493 HB HO496; rename_i BK493 HO499 HB; (try clear hb); (try clear hkp); (try clear ho0)))
  go_ret
  exact ⟨_, zw, mS_ HO499.out, zs GE493.out⟩
 replace c2 := Bool.eq_false_iff.mpr c2
 subst c2
 have H1 : ((impl_forms.f k l0_0 4).bind fun t500 => ((impl_tidyShapes.f t500).bind fun t503 => (some t503))) = some r := by rw [if_neg (show ¬ (false = true) by decide)] at H; exact H
 clear H
 have H := H1
 clear H1
 replace H := Option.bind_eq_some_iff.mp H
 obtain ⟨t500, A100, H⟩ := H
 replace H : ((impl_tidyShapes.f t500).bind fun t503 => (some t503)) = some r := H
 have A10 := aM A100
 clear A100
 replace H := Option.bind_eq_some_iff.mp H
 obtain ⟨t503, A110, H⟩ := H
 replace H : (some t503) = some r := H
 have A11 := aM A110
 clear A110
 obtain rfl := Option.some.inj H
 go_enter Tryz.func78, Tryz.ntmps78
 go_wp2_with (first | ((with_reducible refine gate_dst (N := 1) rfl ?_); refine zx 1 #[.slice A0_0 l0_0.length c0_0, .int .i64 a0_1, .bool false] 50 ?_; intro gb493 hg w12 hbox hb; have _ := aM (below_step zb hb); have _ := aM (hbox); have _ := aM ((ze : w.heap.size ≤ gb493)); have _ := aM ((ze : w.heap.size ≤ gb493)); clear HB; rename_i HB BK493 GW493 GE493; clear hb hbox hg; obtain ⟨hcz13_0, hcz13_1, hcz13_2, hfz13_0, hfz13_1, hfz13_2⟩ := zQ3 BK493.out) | ((with_reducible refine gate_callee (f := 113) rfl ?_); refine goesL_ (some 9) rfl rfl Tryz.func113 (by kernel_rfl) rfl #[.slice A0_0 l0_0.length c0_0, .int .i64 4] rfl zm ?_; (with_reducible refine (impl_forms.calls k _ _ l0_0 4 t500 _ ?side1 ?side2 A10.out).mono ?_); (case side1 => repeat (first | exact (Kd.C_below HR0_0.out HB.out) | (with_reducible refine Kd.C_alloc ?_ _) | (with_reducible refine Kd.C_drewN ?_ _) | (with_reducible refine Kd.C_drew ?_))); (case side2 => exact HC0_0.out); rintro e w14 ⟨v501, rfl, ho0, hb⟩; refine ⟨_, rfl, ?_⟩; have _ := aM (Kd.S_lower ho0 (below_size (zs GE493.out))); have _ := aM (blk_below (g := gb493) (o := .cells #[.slice A0_0 l0_0.length c0_0, .int .i64 a0_1, .bool false] 50 (0, 0)) (mB_ BK493.out) hb); have _ := aM (below_step (zs GE493.out) hb); clear BK493 HB; rename_i HO502 BK493 HB; (try clear hb); (try clear hb2); (try clear hk); (try clear hi); (try clear ho0); obtain ⟨Ao15, co15, eo15⟩ := Kd.S_slice HO502.out; subst eo15) | ((with_reducible refine gate_callee (f := 112) rfl ?_); refine goesL_ (some 10) rfl rfl Tryz.func112 (by kernel_rfl) rfl #[.slice Ao15 t500.length co15] rfl zm ?_; (with_reducible refine (impl_tidyShapes.calls (fun k_ => True) (.slice Ao15 t500.length co15) t500 t503 w _ ?side1 ?side2 A11.out).mono ?_); (case side1 => repeat (first | (with_reducible first | exact HB.out | apply below_alloc | apply pw_below_drewN | apply below_drew1 | refine below_set ?_ GE493.out) | exact HB.out)); (case side2 => exact HO502.out); rintro e w16 ⟨v504, rfl, ho0, hb, hkp⟩; refine ⟨_, rfl, ?_⟩; have _ := aM (blk_kept (mB_ BK493.out) hkp (fun hs_ => (fun e_ => (Kd.S_ne HO502.out BK493.out (by decide)) e_) hs_)); have _ := aM (Kd.S_mono (ok' := fun k_ => True) ho0 (fun k_ hk_ => trivial)); have _ := aM (hb); clear BK493 HB HO502; rename_i BK493 HO505 HB; (try clear hb); (try clear hkp); (try clear ho0)))
 go_ret
 exact ⟨_, zw, mS_ HO505.out, zs GE493.out⟩
def fL (p : List S82 → Bool) : List (List S82) → Int → Int
  | [], _ => -1
  | a :: r, i => if p a then i else fL p r (i + 1)
theorem fL_any (p : List S82 → Bool) : ∀ (l : List (List S82)) (i : Int), 0 ≤ i → decide (0 ≤ fL p l i) = l.any p
  | [], i, h => by simp [fL]
  | a :: r, i, h => by
    unfold fL
    cases hp : p a with
    | true => simp [hp, h]
    | false => simp [hp, fL_any p r (i + 1) (by omega)]
theorem fL_drop (p : List S82 → Bool) (l : List (List S82)) (j : Nat) (hj : j < l.length) : fL p (l.drop j) (j : Int) = if p l[j] = true then (j : Int) else fL p (l.drop (j + 1)) ((j + 1 : Nat) : Int) := by
  rw [← List.getElem_cons_drop hj, fL]
  rfl
theorem at_LG {w : World} {A : Option Addr} {n : Nat} {xs : List (List S82)} (h : Kd.C (Kd.slice 82 k82) w A n xs) (i : Nat) (h1 : i < n) (hx : i < xs.length) : ∃ ad A0 c0, A = some ad ∧ w.cell? (ad.add i) = some (.slice A0 xs[i].length c0) ∧ xs[i].length ≤ c0 ∧ k82.C w A0 xs[i].length xs[i] := by
  obtain ⟨ad, c, e, _, hK, hc0⟩ := Kd.C_get h ([] : List S82) (i : Int) (by omega) (by omega)
  have e0 : xs.getD (i : Int).toNat [] = xs[i] := by rw [Int.toNat_natCast, List.getD_eq_getElem?_getD, List.getElem?_eq_getElem hx]; rfl
  rw [e0] at hK
  have hc : ∀ j u, c[j]? = some u → w.cell? (ad.add ((i : Int).toNat * 1 + j)) = some u := hc0
  obtain ⟨A0, c0, rfl, l0, g0⟩ := hK
  exact ⟨ad, A0, c0, e, by have hq := hc 0 _ rfl; rwa [Nat.mul_one, Nat.add_zero, Int.toNat_natCast] at hq, l0, g0⟩
set_option maxHeartbeats 4000000 in
theorem idxL_calls (g : Nat) (lb : Array Value) (p : List S82 → Bool) (Inv : World → Prop) (eg : ∀ args w, (callFunc g args).run Tryz.prog w = .ok (.enter g args) w) (A0 : Option Addr) (c0 : Nat) (l0 : List (List S82)) (w : World) (hw : Inv w)
    (hr0 : ∀ w1, Inv w1 → Kd.C (Kd.slice 82 k82) w1 A0 l0.length l0) (hd : ∀ w1 n, Inv w1 → Inv (w1.drewN n)) (hn : l0.length ≤ 1000000000000)
    (hp : ∀ x ∈ l0, ∀ w1 A c, Inv w1 → x.length ≤ c → k82.C w1 A x.length x → Calls Tryz.prog g (#[.slice A x.length c] ++ lb) w1 fun e w' => e = .returned (.bool (p x)) ∧ Inv w') :
    Calls Tryz.prog 114 #[.slice A0 l0.length c0, .func (.func g) #[] lb] w fun e w' => e = .returned (.int .i64 (fL p l0 0)) ∧ Inv w' := by
  have HR := aM hr0
  have HP := aM hp
  have HN := aM hn
  have HD := aM hd
  have HI := aM hw
  clear hr0 hp hn hd hw
  go_enter Tryz.func114, Tryz.ntmps114
  go_wp2
  go_loopg [5, 8] l0.length (fun gg _ s8 wr => ∃ kk : Nat, s8 = .int .i64 kk ∧ Aside0 (Inv wr) ∧ Aside0 (kk ≤ l0.length ∧ l0.length - kk ≤ gg ∧ fL p l0 0 = fL p (l0.drop kk) kk))
  case atStart => exact ⟨0, rfl, ⟨by first | exact HI.out | exact HD.out _ _ HI.out⟩, ⟨Nat.zero_le _, by omega, rfl⟩⟩
  case round =>
    obtain ⟨kk, rfl, HI, HK⟩ := hrel
    by_cases hlt : kk < l0.length
    · have hltz : decide ((kk : Int) < (l0.length : Int)) = true := decide_eq_true (by omega)
      have HC := aM (HP.out _ (List.getElem_mem hlt))
      have HDr := aM (fL_drop p l0 kk hlt)
      have p9 : 0 ≤ (kk : Int) := by omega
      have q9 : (kk : Int) < (l0.length : Int) := by omega
      have hCw := HR.out _ HI.out
      obtain ⟨ad9, A9, c9, e9, hx9, hl9, hC9⟩ := at_LG hCw kk hlt hlt
      cases e9
      have HL9 := aM hl9
      have HC9 := aM hC9
      clear hCw hl9 hC9
      replace p9 := eq_true p9
      replace q9 := eq_true q9
      have ht9 : (kk : Int).toNat = kk := Int.toNat_natCast kk
      cases hq : p l0[kk] with
      | true =>
        have HQ := aM hq
        have HCC := HC.out
        simp only [hq] at HCC
        have HX := aM HCC
        clear HCC hq
        go_wp2_with fail
        refine (HX.out _ _ _ (by first | exact HI.out | exact HD.out _ _ HI.out) HL9.out (by first | exact HC9.out | exact Kd.C_drewN HC9.out _)).mono ?_
        rintro e w' ⟨rfl, hI⟩
        have HI2 := aM hI
        clear hI
        go_wp2
        go_ret
        refine ⟨?_, by first | exact HI2.out | exact HD.out _ _ HI2.out⟩
        rw [HK.out.2.2, HDr.out, if_pos HQ.out]
        rfl
      | false =>
        have HQ := aM hq
        have HCC := HC.out
        simp only [hq] at HCC
        have HX := aM HCC
        clear HCC hq
        go_wp2_with fail
        refine (HX.out _ _ _ (by first | exact HI.out | exact HD.out _ _ HI.out) HL9.out (by first | exact HC9.out | exact Kd.C_drewN HC9.out _)).mono ?_
        rintro e w' ⟨rfl, hI⟩
        have HI2 := aM hI
        clear hI
        go_wp2
        go_roundg (l0.length - (kk + 1))
        case measure => have := HK.out; omega
        case rel =>
          refine ⟨kk + 1, ?_, ⟨by first | exact HI2.out | exact HD.out _ _ HI2.out⟩, ⟨by omega, by omega, ?_⟩⟩
          · have := HN.out
            rw [show wrap64 ((kk : Int) + 1) = ((kk + 1 : Nat) : Int) from by unfold wrap64; omega]
          · rw [HK.out.2.2, HDr.out, if_neg (by rw [HQ.out]; simp)]
    · have hltz : decide ((kk : Int) < (l0.length : Int)) = false := decide_eq_false (by omega)
      have e : kk = l0.length := by have := HK.out.1; omega
      go_wp2
      go_ret
      refine ⟨?_, by first | exact HI.out | exact HD.out _ _ HI.out⟩
      rw [HK.out.2.2, e, List.drop_length]; rfl
set_option maxHeartbeats 4000000 in
theorem contL_calls (g : Nat) (lb : Array Value) (p : List S82 → Bool) (Inv : World → Prop) (eg : ∀ args w, (callFunc g args).run Tryz.prog w = .ok (.enter g args) w) (A0 : Option Addr) (c0 : Nat) (l0 : List (List S82)) (w : World) (hw : Inv w)
    (hr0 : ∀ w1, Inv w1 → Kd.C (Kd.slice 82 k82) w1 A0 l0.length l0) (hd : ∀ w1 n, Inv w1 → Inv (w1.drewN n)) (hn : l0.length ≤ 1000000000000)
    (hp : ∀ x ∈ l0, ∀ w1 A c, Inv w1 → x.length ≤ c → k82.C w1 A x.length x → Calls Tryz.prog g (#[.slice A x.length c] ++ lb) w1 fun e w' => e = .returned (.bool (p x)) ∧ Inv w') :
    Calls Tryz.prog 79 #[.slice A0 l0.length c0, .func (.func g) #[] lb] w fun e w' => e = .returned (.bool (l0.any p)) ∧ Inv w' := by
  have HX := aM (fun w1 h1 => idxL_calls g lb p Inv eg A0 c0 l0 w1 h1 hr0 hd hn hp)
  have HA := aM (fL_any p l0 0 (Int.le_refl _))
  have HD := aM hd
  have HI := aM hw
  clear hr0 hp hn hd hw
  generalize fL p l0 0 = r at HX HA
  go_enter Tryz.func79, Tryz.ntmps79
  go_wp2_with fail
  refine (HX.out _ (by first | exact HI.out | exact HD.out _ _ HI.out)).mono ?_
  rintro e w' ⟨rfl, hI⟩
  have HI2 := aM hI
  clear hI
  go_wp2
  go_ret
  exact ⟨by rw [← HA.out]; rfl, by first | exact HI2.out | exact HD.out _ _ HI2.out⟩
def impl_alike.f (k : Nat) (l0_0 : List S82) (a0_1 : Int) (a0_2 : Bool) (l1_0 : List S82) (a1_1 : Int) (a1_2 : Bool) : Option (Bool) :=
  (impl_formsOf.f k l1_0 a1_1 a1_2).bind fun L => (impl_formsOf.f k l0_0 a0_1 a0_2).bind fun M => if (L.length ≤ 1000000000000 ∧ M.length ≤ 1000000000000) ∧ (M.all fun a => L.all fun b => (impl_Cell_82.f k a b).isSome) = true then some (M.any fun a => L.any fun b => impl_Cell_82.f k a b == some true) else none
theorem predE (k : Nat) (B : Nat) (A1 : Option Addr) (c1 : Nat) (a : List S82) (W : World) (hx : W.heap[B]? = some (.cells #[.slice A1 a.length c1] 28 (0, 0))) (hC1 : Kd.C k82 W A1 a.length a) (hc1 : a.length ≤ c1) (A0 : Option Addr) (c0 : Nat) (b : List S82) (hC0 : Kd.C k82 W A0 b.length b) (hc0 : b.length ≤ c0) (r : Bool) (h : impl_Cell_82.f k a b = some r) :
    Calls Tryz.prog 81 #[.slice A0 b.length c0, .pointer (some ⟨B, 0, none⟩)] W fun e w' => e = .returned (.bool r) ∧ ∃ q, w' = W.drewN q := by
  have HC1 := aM hC1
  have HC0 := aM hC0
  have cc0 : W.cell? ⟨B, 0, none⟩ = some (.slice A1 a.length c1) := by simp [World.cell?, hx]
  have HH := aM h
  have HL1 := aM hc1
  have HL0 := aM hc0
  clear hx hC1 hC0 h hc1 hc0
  go_enter Tryz.func81, Tryz.ntmps81
  go_wp2_with (go_at_call 82; refine (impl_Cell_82.calls k A1 c1 a A0 c0 b r _ HC1.out HL1.out HC0.out HL0.out HH.out).mono ?_; rintro e w' ⟨rfl, ⟨q, rfl⟩⟩)
  go_ret
  exact ⟨rfl, q, rfl⟩
set_option maxHeartbeats 4000000 in
theorem predL (k : Nat) (B : Nat) (A1 : Option Addr) (c1 : Nat) (L : List (List S82)) (W : World) (hx : W.heap[B]? = some (.cells #[.slice A1 L.length c1] 97 (0, 0))) (hC1 : Kd.C (Kd.slice 82 k82) W A1 L.length L) (hL : L.length ≤ 1000000000000) (A0 : Option Addr) (c0 : Nat) (a : List S82) (hC0 : Kd.C k82 W A0 a.length a) (hc0 : a.length ≤ c0) (h : (L.all fun b => (impl_Cell_82.f k a b).isSome) = true) :
    Calls Tryz.prog 80 #[.slice A0 a.length c0, .pointer (some ⟨B, 0, none⟩)] W fun e w' => e = .returned (.bool (L.any fun b => impl_Cell_82.f k a b == some true)) ∧ Below W.heap.size W w' := by
  have hb1 : Below W.heap.size W (W.alloc (.cells #[.slice A0 a.length c0] 28 (0, 0))) := below_alloc (Below.refl _ _) _
  have hblk := blk_new W (.cells #[.slice A0 a.length c0] 28 (0, 0))
  have eg : ∀ args w, (callFunc 81 args).run Tryz.prog w = .ok (.enter 81 args) w := enters_ Tryz.func81 (by kernel_rfl) rfl
  have hcc : (W.alloc (.cells #[.slice A0 a.length c0] 28 (0, 0))).cell? ⟨B, 0, none⟩ = some (.slice A1 L.length c1) := by
    have : W.cell? ⟨B, 0, none⟩ = some (.slice A1 L.length c1) := by simp [World.cell?, hx]
    exact pw_cell_below hb1 this
  have hcon := contL_calls 81 #[.pointer (some ⟨W.heap.size, 0, none⟩)] (fun b => impl_Cell_82.f k a b == some true) (fun w1 => ∃ q, w1 = (W.alloc (.cells #[.slice A0 a.length c0] 28 (0, 0))).drewN q) eg A1 c1 L (W.alloc (.cells #[.slice A0 a.length c0] 28 (0, 0))) ⟨0, rfl⟩
    (by rintro _ ⟨q, rfl⟩; exact Kd.C_drewN (Kd.C_below hC1 hb1) q) (by rintro _ n ⟨q, rfl⟩; exact ⟨q + n, World.drewN_drewN _ _ _⟩) hL (by
      rintro b hb _ A c ⟨q, rfl⟩ hc hC
      obtain ⟨r, hr⟩ := Option.isSome_iff_exists.1 (List.all_eq_true.1 h b hb)
      have e : (impl_Cell_82.f k a b == some true) = r := by rw [hr]; cases r <;> rfl
      show Calls Tryz.prog 81 _ _ fun e w' => e = .returned (.bool (impl_Cell_82.f k a b == some true)) ∧ _
      rw [e]
      refine (predE k W.heap.size A0 c0 a _ (blk_drewN hblk q) (Kd.C_drewN (Kd.C_below hC0 hb1) q) hc0 A c b hC hc r hr).mono ?_
      rintro e w' ⟨rfl, n, rfl⟩
      exact ⟨rfl, q + n, World.drewN_drewN _ _ _⟩)
  have HX := aM hcon
  have HB1 := aM hb1
  have hcw : W.cell? ⟨B, 0, none⟩ = some (.slice A1 L.length c1) := by simp [World.cell?, hx]
  clear hcon hx hC1 hC0 hblk hb1 h
  go_enter Tryz.func80, Tryz.ntmps80
  go_wp2_with (go_at_call 79; refine HX.out.mono ?_; rintro e w' ⟨rfl, q, rfl⟩)
  go_ret
  exact ⟨rfl, pw_below_drewN HB1.out q⟩
theorem impl_alike.calls (k : Nat) (A0_0 : Option Addr) (c0_0 : Nat) (l0_0 : List S82) (a0_1 : Int) (a0_2 : Bool) (A1_0 : Option Addr) (c1_0 : Nat) (l1_0 : List S82) (a1_1 : Int) (a1_2 : Bool) (r : Bool) (w : World) (hr0_0 : Kd.C k82 w A0_0 l0_0.length l0_0) (hc0_0 : l0_0.length ≤ c0_0) (hr1_0 : Kd.C k82 w A1_0 l1_0.length l1_0) (hc1_0 : l1_0.length ≤ c1_0) (h : impl_alike.f k l0_0 a0_1 a0_2 l1_0 a1_1 a1_2 = some r) :
    Calls Tryz.prog 51 #[.agg #[.slice A0_0 l0_0.length c0_0, .int .i64 a0_1, .bool a0_2], .agg #[.slice A1_0 l1_0.length c1_0, .int .i64 a1_1, .bool a1_2]] w fun e w' => e = .returned (.bool r) ∧ Below w.heap.size w w' := by
  unfold impl_alike.f at h
  obtain ⟨L, hL, h⟩ := Option.bind_eq_some_iff.mp h
  obtain ⟨M, hM, h⟩ := Option.bind_eq_some_iff.mp h
  by_cases hl : (L.length ≤ 1000000000000 ∧ M.length ≤ 1000000000000) ∧ (M.all fun a => L.all fun b => (impl_Cell_82.f k a b).isSome) = true
  · rw [if_pos hl] at h
    obtain rfl := Option.some.inj h
    clear h
    have hu := Tryz.underlying50
    have hu2 := Tryz.underlying97
    have eg : ∀ args w, (callFunc 80 args).run Tryz.prog w = .ok (.enter 80 args) w := enters_ Tryz.func80 (by kernel_rfl) rfl
    have HEG := aM eg
    have HR0 := aM hr0_0
    have HR1 := aM hr1_0
    have HC0 := aM hc0_0
    have HC1 := aM hc1_0
    have HLL := aM hL
    have HMM := aM hM
    have HLN := aM hl
    clear hr0_0 hr1_0 hc0_0 hc1_0 hL hM hl eg
    go_enter Tryz.func51, Tryz.ntmps51
    go_wp2_with fail
    refine (impl_formsOf.calls k A1_0 c1_0 l1_0 a1_1 a1_2 L _ (Kd.C_alloc (Kd.C_alloc HR1.out _) _) HC1.out HLL.out).mono ?_
    rintro e w2 ⟨v0, rfl, ho0, hb⟩
    obtain ⟨Al, cl, rfl⟩ := Kd.S_slice ho0
    have HS := aM (Kd.S_reads' ho0).2
    have HBK := blk_below (blk_alloc (blk_new w (.cells #[.slice A0_0 l0_0.length c0_0, .int .i64 a0_1, .bool a0_2] 50 (0, 0))) (.cells #[.slice A1_0 l1_0.length c1_0, .int .i64 a1_1, .bool a1_2] 50 (0, 0))) hb
    have HB := aM (below_step (below_alloc (below_alloc (Below.refl w.heap.size w) _) _) hb)
    have hbX : Below w2.heap.size w2 (w2.alloc (.cells #[.slice Al L.length cl] 97 (0, 0))) := below_alloc (Below.refl _ _) _
    have HBL := aM (blk_new w2 (.cells #[.slice Al L.length cl] 97 (0, 0)))
    have hz0 : (w2.alloc (.cells #[.slice Al L.length cl] 97 (0, 0))).cell? ⟨w.heap.size, 0, none⟩ = some (.slice A0_0 l0_0.length c0_0) := pw_cell_below hbX ((blk_cell HBK 0).trans rfl)
    have hz1 : (w2.alloc (.cells #[.slice Al L.length cl] 97 (0, 0))).cell? ⟨w.heap.size, 1, none⟩ = some (.int .i64 a0_1) := pw_cell_below hbX ((blk_cell HBK 1).trans rfl)
    have hz2 : (w2.alloc (.cells #[.slice Al L.length cl] 97 (0, 0))).cell? ⟨w.heap.size, 2, none⟩ = some (.bool a0_2) := pw_cell_below hbX ((blk_cell HBK 2).trans rfl)
    have HR2 := aM (Kd.C_below HR0.out HB.out)
    clear ho0 hb HBK hbX
    go_wp2_with fail
    refine (impl_formsOf.calls k A0_0 c0_0 l0_0 a0_1 a0_2 M _ (Kd.C_alloc HR2.out _) HC0.out HMM.out).mono ?_
    rintro e w3 ⟨v1, rfl, ho1, hb⟩
    obtain ⟨Am, cm, rfl⟩ := Kd.S_slice ho1
    have HS3 := aM (Kd.S_reads' ho1).2
    have HB3 := aM (below_step (below_alloc HB.out _) hb)
    have hK := blk_below HBL.out hb
    have hCL := Kd.C_below (Kd.C_alloc HS.out.2 (.cells #[.slice Al L.length cl] 97 (0, 0))) hb
    have HX := aM (fun q => contL_calls 80 #[.pointer (some ⟨w2.heap.size, 0, none⟩)] (fun a => L.any fun b => impl_Cell_82.f k a b == some true) (fun w1 => Below w3.heap.size w3 w1) HEG.out Am cm M (w3.drewN q) (pw_below_drewN (Below.refl _ _) q)
      (fun w1 h1 => Kd.C_below HS3.out.2 h1) (fun w1 n h1 => pw_below_drewN h1 n) HLN.out.1.2 (by
        intro a ha w1 A c h1 hc hC
        refine (predL k w2.heap.size Al cl L w1 (blk_below hK h1) (Kd.C_below hCL h1) HLN.out.1.1 A c a hC hc (List.all_eq_true.1 HLN.out.2 a ha)).mono ?_
        rintro e w' ⟨rfl, hb'⟩
        exact ⟨rfl, below_step h1 hb'⟩))
    clear ho1 hb hK hCL
    go_wp2_with fail
    first | refine (HX.out _).mono ?_ | refine (HX.out 0).mono ?_
    rintro e w4 ⟨rfl, hb4⟩
    have HB4 := aM (below_step HB3.out hb4)
    clear hb4
    go_wp2
    go_ret
    exact ⟨rfl, HB4.out⟩
  · rw [if_neg hl] at h
    exact absurd h (by simp)
mutual
def impl_IsPuzzle.j0 : Nat → Bool → List (S82) → List (S50) → Option (Bool)
 | 0, _, _, _ => none
 | k + 1, x22, x507000, x507001 => if x22 = true then (some false) else (impl_IsPuzzle.l0 k x507001 (x507001.length : Int) 0 x507000 x507001)
def impl_IsPuzzle.l0 : Nat → List (S50) → Int → Int → List (S82) → List (S50) → Option (Bool)
 | 0, _, _, _, _, _ => none
 | k + 1, x24, x25, x26, x507000, x507001 => if x26 < x25 then (if 0 ≤ x26 then (if x26 < (x24.length : Int) then ((impl_IsPiece.f k ((rd_T50 x24 x26).f0) ((rd_T50 x24 x26).f1) ((rd_T50 x24 x26).f2)).bind fun t510 => (if t510 = true then (if x26 ≤ (x507001.length : Int) then ((some (x507001.take (x26 : Int).toNat : List (S50))).bind fun y511 => (impl_IsPuzzle.l1 k x24 x25 x26 y511 (y511.length : Int) 0 x507000 x507001 ((rd_T50 x24 x26).f0) ((rd_T50 x24 x26).f1) ((rd_T50 x24 x26).f2))) else (none)) else (some false))) else (none)) else (none)) else (some true)
def impl_IsPuzzle.l1 : Nat → List (S50) → Int → Int → List (S50) → Int → Int → List (S82) → List (S50) → List (S82) → Int → Bool → Option (Bool)
 | 0, _, _, _, _, _, _, _, _, _, _, _ => none
 | k + 1, x24, x25, x26, x37, x38, x39, x507000, x507001, x510000, x510001, x510002 => if x39 < x38 then (if 0 ≤ x39 then (if x39 < (x37.length : Int) then (if (x510000.length : Int) = (((rd_T50 x37 x39).f0).length : Int) then ((impl_alike.f k x510000 x510001 x510002 ((rd_T50 x37 x39).f0) ((rd_T50 x37 x39).f1) ((rd_T50 x37 x39).f2)).bind fun t517 => (if t517 = true then (some false) else (impl_IsPuzzle.l1 k x24 x25 x26 x37 x38 (wrap64 (x39 + 1)) x507000 x507001 x510000 x510001 x510002))) else (impl_IsPuzzle.l1 k x24 x25 x26 x37 x38 (wrap64 (x39 + 1)) x507000 x507001 x510000 x510001 x510002)) else (none)) else (none)) else (impl_IsPuzzle.l0 k x24 x25 (wrap64 (x26 + 1)) x507000 x507001)
end
def impl_IsPuzzle.f (k : Nat) (l0_0 : List (S82)) (l0_1 : List (S50)) : Option (Bool) := (impl_IsRegion.f k l0_0).bind fun t507 => (if t507 = true then (if (l0_1.length : Int) < 1 then (impl_IsPuzzle.j0 k true l0_0 l0_1) else (impl_IsPuzzle.j0 k (decide ((l0_1.length : Int) > 12)) l0_0 l0_1)) else (impl_IsPuzzle.j0 k true l0_0 l0_1))
theorem impl_IsPuzzle.calls (k : Nat) (A0_0 : Option Addr) (c0_0 : Nat) (l0_0 : List (S82)) (A0_1 : Option Addr) (c0_1 : Nat) (l0_1 : List (S50)) (r : Bool) (w : World) (hr0_0 : Kd.C k82 w A0_0 l0_0.length l0_0) (hc0_0 : l0_0.length ≤ c0_0) (hr0_1 : Kd.C k50 w A0_1 l0_1.length l0_1) (hc0_1 : l0_1.length ≤ c0_1) (h : impl_IsPuzzle.f k l0_0 l0_1 = some r) :
  Calls Tryz.prog 21 #[.agg #[.slice A0_0 l0_0.length c0_0, .slice A0_1 l0_1.length c0_1]] w fun e w' => e = .returned (.bool r) ∧ Below w.heap.size w w' := by
 have hu31 := Tryz.underlying31
 have hu50 := Tryz.underlying50
 have HR0_0 := aM hr0_0
 have HC0_0 := aM hc0_0
 clear hr0_0 hc0_0
 have HR0_1 := aM hr0_1
 have HC0_1 := aM hc0_1
 clear hr0_1 hc0_1
 have HB := aM (Below.refl w.heap.size w)
 have H : ((impl_IsRegion.f k l0_0).bind fun t507 => (if t507 = true then (if (l0_1.length : Int) < 1 then (impl_IsPuzzle.j0 k true l0_0 l0_1) else (impl_IsPuzzle.j0 k (decide ((l0_1.length : Int) > 12)) l0_0 l0_1)) else (impl_IsPuzzle.j0 k true l0_0 l0_1))) = some r := h
 clear h
 have HC2 := aM H
 clear H
 go_enter Tryz.func21, Tryz.ntmps21
 go_upto_region 1 with (first | ((with_reducible refine gate_dst (N := 1) rfl ?_); (try (refine gate_guard (by rfl) ?_; dsimp only)); refine zx 1 #[.slice A0_0 l0_0.length c0_0, .slice A0_1 l0_1.length c0_1] 31 ?_; intro gb506 hg w3 hbox hb; have _ := aM (below_step zb hb); have _ := aM (hbox); have _ := aM ((ze : w.heap.size ≤ gb506)); have _ := aM ((ze : w.heap.size ≤ gb506)); clear HB; rename_i HB BK506 GW506 GE506; clear hb hbox hg))
 (try simp only [Act.put, xA, xB, xC])
 go_cut [22] (fun v22 wc => ∃ (kq : Nat) (x22_1 : Bool), v22 = .bool x22_1 ∧ Aside0 (impl_IsPuzzle.j0 kq x22_1 l0_0 l0_1 = some r) ∧ Aside0 (kq ≤ k) ∧ Aside0 (wc.heap[gb506]? = some (.cells #[(.slice A0_0 l0_0.length c0_0), (.slice A0_1 l0_1.length c0_1)] 31 (0, 0))) ∧ Aside0 (Below w.heap.size w wc))
 case first =>
  have H := HC2.out
  clear HC2
  replace H := Option.bind_eq_some_iff.mp H
  obtain ⟨t507, A40, H⟩ := H
  replace H : (if t507 = true then (if (l0_1.length : Int) < 1 then (impl_IsPuzzle.j0 k true l0_0 l0_1) else (impl_IsPuzzle.j0 k (decide ((l0_1.length : Int) > 12)) l0_0 l0_1)) else (impl_IsPuzzle.j0 k true l0_0 l0_1)) = some r := H
  have A4 := aM A40
  clear A40
  by_cases c5 : t507 = true
  rotate_left
  ·replace c5 := Bool.eq_false_iff.mpr c5
   subst c5
   have H1 : (impl_IsPuzzle.j0 k true l0_0 l0_1) = some r := by rw [if_neg (show ¬ (false = true) by decide)] at H; exact H
   clear H
   have H := H1
   clear H1
   have H' := aM H
   clear H
   obtain ⟨hcz13_0, hcz13_1, hfz13_0, hfz13_1⟩ := zQ2 BK506.out
   go_wp2_with (first | ((with_reducible refine gate_callee (f := 49) rfl ?_); refine goesL_ (some 9) rfl rfl Tryz.func49 (by kernel_rfl) rfl #[.slice A0_0 l0_0.length c0_0] rfl zm ?_; (with_reducible refine (impl_IsRegion.calls k _ _ l0_0 false _ ?side1 ?side2 A4.out).mono ?_); (case side1 => repeat (first | exact (Kd.C_below HR0_0.out HB.out) | (with_reducible refine Kd.C_alloc ?_ _) | (with_reducible refine Kd.C_drewN ?_ _) | (with_reducible refine Kd.C_drew ?_))); (case side2 => exact HC0_0.out); rintro e w14 ⟨rfl, hb⟩; refine ⟨_, rfl, ?_⟩; have _ := aM (blk_below (g := gb506) (o := .cells #[.slice A0_0 l0_0.length c0_0, .slice A0_1 l0_1.length c0_1] 31 (0, 0)) (mB_ BK506.out) hb); have _ := aM (below_step (zs GE506.out) hb); clear BK506 HB; rename_i BK506 HB; (try clear hb); (try clear hb2); (try clear hk); (try clear hi)))
   go_meet
   case rel => exact ⟨_, (true), zr, H', ⟨by first | omega | exact Nat.le_refl _⟩, ⟨mB_ BK506.out⟩, ⟨zs GE506.out⟩⟩
  subst c5
  have H1 : (if (l0_1.length : Int) < 1 then (impl_IsPuzzle.j0 k true l0_0 l0_1) else (impl_IsPuzzle.j0 k (decide ((l0_1.length : Int) > 12)) l0_0 l0_1)) = some r := by rw [if_pos rfl] at H; exact H
  clear H
  have H := H1
  clear H1
  by_cases c6 : (l0_1.length : Int) < 1
  ·rw [if_pos c6] at H
   have c6b0 : decide ((l0_1.length : Int) < 1) = true := decide_eq_true c6
   have c6b1 : decide (l0_1.length < 1) = true := decide_eq_true (by omega)
   clear c6
   (first | rw [c6b0] | (simp only [i64_w, i32_w]; rw [c6b0]) | skip)
   have H' := aM H
   clear H
   obtain ⟨hcz7_0, hcz7_1, hfz7_0, hfz7_1⟩ := zQ2 BK506.out
   go_wp2_with (first | ((with_reducible refine gate_callee (f := 49) rfl ?_); refine goesL_ (some 9) rfl rfl Tryz.func49 (by kernel_rfl) rfl #[.slice A0_0 l0_0.length c0_0] rfl zm ?_; (with_reducible refine (impl_IsRegion.calls k _ _ l0_0 true _ ?side1 ?side2 A4.out).mono ?_); (case side1 => repeat (first | exact (Kd.C_below HR0_0.out HB.out) | (with_reducible refine Kd.C_alloc ?_ _) | (with_reducible refine Kd.C_drewN ?_ _) | (with_reducible refine Kd.C_drew ?_))); (case side2 => exact HC0_0.out); rintro e w8 ⟨rfl, hb⟩; refine ⟨_, rfl, ?_⟩; have _ := aM (blk_below (g := gb506) (o := .cells #[.slice A0_0 l0_0.length c0_0, .slice A0_1 l0_1.length c0_1] 31 (0, 0)) (mB_ BK506.out) hb); have _ := aM (below_step (zs GE506.out) hb); clear BK506 HB; rename_i BK506 HB; (try clear hb); (try clear hb2); (try clear hk); (try clear hi); obtain ⟨hcz9_0, hcz9_1, hfz9_0, hfz9_1⟩ := zQ2 BK506.out))
   go_meet
   case rel => exact ⟨_, (true), zr, H', ⟨by first | omega | exact Nat.le_refl _⟩, ⟨mB_ BK506.out⟩, ⟨zs GE506.out⟩⟩
  rw [if_neg c6] at H
  have c6b0 : decide ((l0_1.length : Int) < 1) = false := decide_eq_false c6
  have c6b1 : decide (l0_1.length < 1) = false := decide_eq_false (by omega)
  clear c6
  (first | rw [c6b0] | (simp only [i64_w, i32_w]; rw [c6b0]) | skip)
  have H' := aM H
  clear H
  obtain ⟨hcz10_0, hcz10_1, hfz10_0, hfz10_1⟩ := zQ2 BK506.out
  go_wp2_with (first | ((with_reducible refine gate_callee (f := 49) rfl ?_); refine goesL_ (some 9) rfl rfl Tryz.func49 (by kernel_rfl) rfl #[.slice A0_0 l0_0.length c0_0] rfl zm ?_; (with_reducible refine (impl_IsRegion.calls k _ _ l0_0 true _ ?side1 ?side2 A4.out).mono ?_); (case side1 => repeat (first | exact (Kd.C_below HR0_0.out HB.out) | (with_reducible refine Kd.C_alloc ?_ _) | (with_reducible refine Kd.C_drewN ?_ _) | (with_reducible refine Kd.C_drew ?_))); (case side2 => exact HC0_0.out); rintro e w11 ⟨rfl, hb⟩; refine ⟨_, rfl, ?_⟩; have _ := aM (blk_below (g := gb506) (o := .cells #[.slice A0_0 l0_0.length c0_0, .slice A0_1 l0_1.length c0_1] 31 (0, 0)) (mB_ BK506.out) hb); have _ := aM (below_step (zs GE506.out) hb); clear BK506 HB; rename_i BK506 HB; (try clear hb); (try clear hb2); (try clear hk); (try clear hi); obtain ⟨hcz12_0, hcz12_1, hfz12_0, hfz12_1⟩ := zQ2 BK506.out))
  go_meet
  case rel => exact ⟨_, (decide ((l0_1.length : Int) > 12)), zr, H', ⟨by first | omega | exact Nat.le_refl _⟩, ⟨mB_ BK506.out⟩, ⟨zs GE506.out⟩⟩
 case rest =>
  clear HC2
  try clear c2
  try clear p2
  try clear c4
  try clear c5
  try clear c6
  try clear c6b0
  try clear c6b1
  try clear hcz10_0
  try clear hcz10_1
  try clear hcz12_0
  try clear hcz12_1
  try clear hcz13_0
  try clear hcz13_1
  try clear hcz7_0
  try clear hcz7_1
  try clear hcz9_0
  try clear hcz9_1
  try clear hfz10_0
  try clear hfz10_1
  try clear hfz12_0
  try clear hfz12_1
  try clear hfz13_0
  try clear hfz13_1
  try clear hfz7_0
  try clear hfz7_1
  try clear hfz9_0
  try clear hfz9_1
  obtain ⟨kq, x22_1, rfl, HA, HJ1, BK506, HB⟩ := hcut
  cases kq with
  | zero => exact absurd HA.out (by simp [impl_IsPuzzle.j0])
  | succ kj1 =>
   have H := HA.out
   clear HA
   simp only [impl_IsPuzzle.j0] at H
   by_cases c15 : x22_1 = true
   ·subst c15
    have H1 : (some false) = some r := by rw [if_pos rfl] at H; exact H
    clear H
    have H := H1
    clear H1
    obtain rfl := Option.some.inj H
    go_wp2
    go_ret
    exact ⟨zw, zs GE506.out⟩
   replace c15 := Bool.eq_false_iff.mpr c15
   subst c15
   have H1 : (impl_IsPuzzle.l0 kj1 l0_1 (l0_1.length : Int) 0 l0_0 l0_1) = some r := by rw [if_neg (show ¬ (false = true) by decide)] at H; exact H
   clear H
   have H := H1
   clear H1
   have H' := aM H
   clear H
   obtain ⟨hcz16_0, hcz16_1, hfz16_0, hfz16_1⟩ := zQ2 BK506.out
   go_wp2
   go_loopg [26] kj1 (fun kq v26 w' => ∃ (x26_2 : Int), v26 = .int .i64 x26_2 ∧ Aside0 (impl_IsPuzzle.l0 kq l0_1 (l0_1.length : Int) x26_2 l0_0 l0_1 = some r) ∧ Aside0 (kq ≤ kj1) ∧ Aside0 (w'.heap[gb506]? = some (.cells #[(.slice A0_0 l0_0.length c0_0), (.slice A0_1 l0_1.length c0_1)] 31 (0, 0))) ∧ Aside0 (Below w.heap.size w w'))
   case atStart => exact ⟨(0), zr, H', ⟨Nat.le_refl _⟩, ⟨mB_ BK506.out⟩, ⟨zs GE506.out⟩⟩
   case round =>
    clear H'
    try clear c1
    try clear c2
    try clear p2
    try clear c4
    try clear c5
    try clear c6
    try clear c6b0
    try clear c6b1
    try clear c15
    try clear hcz10_0
    try clear hcz10_1
    try clear hcz12_0
    try clear hcz12_1
    try clear hcz13_0
    try clear hcz13_1
    try clear hcz16_0
    try clear hcz16_1
    try clear hcz7_0
    try clear hcz7_1
    try clear hcz9_0
    try clear hcz9_1
    try clear hfz10_0
    try clear hfz10_1
    try clear hfz12_0
    try clear hfz12_1
    try clear hfz13_0
    try clear hfz13_1
    try clear hfz16_0
    try clear hfz16_1
    try clear hfz7_0
    try clear hfz7_1
    try clear hfz9_0
    try clear hfz9_1
    try clear p2
    obtain ⟨x26_2, rfl, HA, HK2, BK506, HB⟩ := hrel
    cases gk with
    | zero => exact absurd HA.out (by simp [impl_IsPuzzle.l0])
    | succ k2 =>
     have H := HA.out
     clear HA
     simp only [impl_IsPuzzle.l0] at H
     by_cases c17 : x26_2 < (l0_1.length : Int)
     rotate_left
     ·rw [if_neg c17] at H
      have c17b0 : decide (x26_2 < (l0_1.length : Int)) = false := decide_eq_false c17
      clear c17
      obtain rfl := Option.some.inj H
      go_wp2
      go_ret
      exact ⟨zw, zs GE506.out⟩
     rw [if_pos c17] at H
     have c17b0 : decide (x26_2 < (l0_1.length : Int)) = true := decide_eq_true c17
     clear c17
     by_cases c18 : 0 ≤ x26_2
     rotate_left
     ·rw [if_neg c18] at H
      exact absurd H (by simp)
     rw [if_pos c18] at H
     have c18b0 : decide (0 ≤ x26_2) = true := decide_eq_true c18
     clear c18
     by_cases c19 : x26_2 < (l0_1.length : Int)
     rotate_left
     ·rw [if_neg c19] at H
      exact absurd H (by simp)
     rw [if_pos c19] at H
     have c19b0 : decide (x26_2 < (l0_1.length : Int)) = true := decide_eq_true c19
     clear c19
     replace H := Option.bind_eq_some_iff.mp H
     obtain ⟨t510, A200, H⟩ := H
     replace H : (if t510 = true then (if x26_2 ≤ (l0_1.length : Int) then ((some (l0_1.take (x26_2 : Int).toNat : List (S50))).bind fun y511 => (impl_IsPuzzle.l1 k2 l0_1 (l0_1.length : Int) x26_2 y511 (y511.length : Int) 0 l0_0 l0_1 ((rd_T50 l0_1 x26_2).f0) ((rd_T50 l0_1 x26_2).f1) ((rd_T50 l0_1 x26_2).f2))) else (none)) else (some false)) = some r := H
     have A20 := aM A200
     clear A200
     by_cases c21 : t510 = true
     rotate_left
     ·replace c21 := Bool.eq_false_iff.mpr c21
      subst c21
      have H1 : (some false) = some r := by rw [if_neg (show ¬ (false = true) by decide)] at H; exact H
      clear H
      have H := H1
      clear H1
      obtain rfl := Option.some.inj H
      have p508 : 0 ≤ (x26_2 : Int) := of_decide_eq_true za
      have q508 : x26_2 < (l0_1.length : Int) := of_decide_eq_true za
      obtain ⟨ad508, A508_0, c508_0, e508, hx508_0, hx508_1, hx508_2, hl508_0, hi508_0⟩ := at_T50 HR0_1.out x26_2 p508 q508
      cases e508
      replace hx508_0 := zk HB.out hx508_0
      replace hx508_1 := zk HB.out hx508_1
      replace hx508_2 := zk HB.out hx508_2
      have HR508_0 := aM hi508_0
      have HC508_0 := aM hl508_0
      clear hi508_0 hl508_0
      replace p508 := eq_true p508
      replace q508 := eq_true q508
      go_wp2_with (first | ((with_reducible refine gate_dst (N := 4) rfl ?_); (try (refine gate_guard (by rfl) ?_; dsimp only)); refine zx 4 #[.slice none 0 0, .int .i64 0, .bool false] 50 ?_; intro gb509 hg w56 hbox hb; have _ := aM (blk_below (g := gb506) (o := .cells #[.slice A0_0 l0_0.length c0_0, .slice (some ad508) l0_1.length c0_1] 31 (0, 0)) (mB_ BK506.out) hb); have _ := aM (below_step (zs GE506.out) hb); have _ := aM (hbox); have _ := aM ((zf GE506.out : w.heap.size ≤ gb509)); have _ := aM ((zf GE506.out : w.heap.size ≤ gb509)); have _ := aM ((zl BK506.out : gb506 ≠ gb509)); have _ := aM ((zn BK506.out : gb509 ≠ gb506)); clear BK506 HB; rename_i BK506 HB BK509 GW509 GE509 NB506_509 NB509_506; clear hb hbox hg; have hnb57 := NB509_506.out; have hnc57 := NB506_509.out; obtain ⟨hcz58_0, hcz58_1, hcz58_2, hfz58_0, hfz58_1, hfz58_2⟩ := zQ3 BK509.out) | ((with_reducible refine gate_callee (f := 50) rfl ?_); refine goesL_ (some 32) rfl rfl Tryz.func50 (by kernel_rfl) rfl #[.agg #[.slice A508_0 ((rd_T50 l0_1 x26_2).f0).length c508_0, .int .i64 ((rd_T50 l0_1 x26_2).f1), .bool ((rd_T50 l0_1 x26_2).f2)]] rfl zm ?_; (with_reducible refine (impl_IsPiece.calls k2 _ _ ((rd_T50 l0_1 x26_2).f0) ((rd_T50 l0_1 x26_2).f1) ((rd_T50 l0_1 x26_2).f2) false _ ?side1 ?side2 A20.out).mono ?_); (case side1 => exact Kd.C_below HR508_0.out (zt GE506.out GE509.out)); (case side2 => exact HC508_0.out); rintro e w59 ⟨rfl, hb⟩; refine ⟨_, rfl, ?_⟩; have _ := aM (blk_below (g := gb506) (o := .cells #[.slice A0_0 l0_0.length c0_0, .slice (some ad508) l0_1.length c0_1] 31 (0, 0)) (by (with_reducible repeat (first | refine blk_drewN ?_ _ | refine blk_drew ?_ | refine blk_alloc ?_ _)); refine blk_far ?_ NB506_509.out _; (with_reducible repeat (first | refine blk_drewN ?_ _ | refine blk_drew ?_ | refine blk_alloc ?_ _)); refine blk_far ?_ NB506_509.out _; (with_reducible repeat (first | refine blk_drewN ?_ _ | refine blk_drew ?_ | refine blk_alloc ?_ _)); refine blk_far ?_ NB506_509.out _; (with_reducible repeat (first | refine blk_drewN ?_ _ | refine blk_drew ?_ | refine blk_alloc ?_ _)); exact BK506.out) hb); have _ := aM (blk_below (g := gb509) (o := .cells #[.slice A508_0 ((rd_T50 l0_1 x26_2).f0).length c508_0, .int .i64 ((rd_T50 l0_1 x26_2).f1), .bool ((rd_T50 l0_1 x26_2).f2)] 50 (0, 0)) (by (with_reducible repeat (first | refine blk_drewN ?_ _ | refine blk_drew ?_ | refine blk_alloc ?_ _)); refine blk_put (cs := #[.slice A508_0 ((rd_T50 l0_1 x26_2).f0).length c508_0, .int .i64 ((rd_T50 l0_1 x26_2).f1), .bool false]) ?_ 2 _ rfl; (with_reducible repeat (first | refine blk_drewN ?_ _ | refine blk_drew ?_ | refine blk_alloc ?_ _)); refine blk_put (cs := #[.slice A508_0 ((rd_T50 l0_1 x26_2).f0).length c508_0, .int .i64 0, .bool false]) ?_ 1 _ rfl; (with_reducible repeat (first | refine blk_drewN ?_ _ | refine blk_drew ?_ | refine blk_alloc ?_ _)); refine blk_put (cs := #[.slice none 0 0, .int .i64 0, .bool false]) ?_ 0 _ rfl; (with_reducible repeat (first | refine blk_drewN ?_ _ | refine blk_drew ?_ | refine blk_alloc ?_ _)); exact BK509.out) hb); have _ := aM (below_step (zt GE506.out GE509.out) hb); clear BK506 BK509 HB; rename_i BK506 BK509 HB; (try clear hb); (try clear hb2); (try clear hk); (try clear hi)))
      go_ret
      exact ⟨zw, zt GE506.out GE509.out⟩
     subst c21
     have H1 : (if x26_2 ≤ (l0_1.length : Int) then ((some (l0_1.take (x26_2 : Int).toNat : List (S50))).bind fun y511 => (impl_IsPuzzle.l1 k2 l0_1 (l0_1.length : Int) x26_2 y511 (y511.length : Int) 0 l0_0 l0_1 ((rd_T50 l0_1 x26_2).f0) ((rd_T50 l0_1 x26_2).f1) ((rd_T50 l0_1 x26_2).f2))) else (none)) = some r := by rw [if_pos rfl] at H; exact H
     clear H
     have H := H1
     clear H1
     have c22b0 := eq_true (of_decide_eq_true za : 0 ≤ x26_2)
     by_cases c23 : x26_2 ≤ (l0_1.length : Int)
     rotate_left
     ·rw [if_neg c23] at H
      exact absurd H (by simp)
     rw [if_pos c23] at H
     have c23b0 := eq_true c23
     have c23b1 : decide (x26_2 ≤ (l0_1.length : Int)) = true := decide_eq_true c23
     clear c23
     obtain ⟨y511, hy511⟩ : ∃ y_ : List (S50), y_ = (l0_1.take (x26_2 : Int).toNat) := ⟨_, rfl⟩
     replace H : (impl_IsPuzzle.l1 k2 l0_1 (l0_1.length : Int) x26_2 y511 (y511.length : Int) 0 l0_0 l0_1 ((rd_T50 l0_1 x26_2).f0) ((rd_T50 l0_1 x26_2).f1) ((rd_T50 l0_1 x26_2).f2)) = some r := zy H hy511
     have Ny511 := aM hy511
     clear hy511
     have H' := aM H
     clear H
     have p508 : 0 ≤ (x26_2 : Int) := of_decide_eq_true za
     have q508 : x26_2 < (l0_1.length : Int) := of_decide_eq_true za
     obtain ⟨ad508, A508_0, c508_0, e508, hx508_0, hx508_1, hx508_2, hl508_0, hi508_0⟩ := at_T50 HR0_1.out x26_2 p508 q508
     cases e508
     replace hx508_0 := zk HB.out hx508_0
     replace hx508_1 := zk HB.out hx508_1
     replace hx508_2 := zk HB.out hx508_2
     have HR508_0 := aM hi508_0
     have HC508_0 := aM hl508_0
     clear hi508_0 hl508_0
     replace p508 := eq_true p508
     replace q508 := eq_true q508
     go_wp2_with (first | ((with_reducible refine gate_dst (N := 4) rfl ?_); (try (refine gate_guard (by rfl) ?_; dsimp only)); refine zx 4 #[.slice none 0 0, .int .i64 0, .bool false] 50 ?_; intro gb509 hg w24 hbox hb; have _ := aM (blk_below (g := gb506) (o := .cells #[.slice A0_0 l0_0.length c0_0, .slice (some ad508) l0_1.length c0_1] 31 (0, 0)) (mB_ BK506.out) hb); have _ := aM (below_step (zs GE506.out) hb); have _ := aM (hbox); have _ := aM ((zf GE506.out : w.heap.size ≤ gb509)); have _ := aM ((zf GE506.out : w.heap.size ≤ gb509)); have _ := aM ((zl BK506.out : gb506 ≠ gb509)); have _ := aM ((zn BK506.out : gb509 ≠ gb506)); clear BK506 HB; rename_i BK506 HB BK509 GW509 GE509 NB506_509 NB509_506; clear hb hbox hg; have hnb25 := NB509_506.out; have hnc25 := NB506_509.out; obtain ⟨hcz26_0, hcz26_1, hcz26_2, hfz26_0, hfz26_1, hfz26_2⟩ := zQ3 BK509.out) | ((with_reducible refine gate_callee (f := 50) rfl ?_); refine goesL_ (some 32) rfl rfl Tryz.func50 (by kernel_rfl) rfl #[.agg #[.slice A508_0 ((rd_T50 l0_1 x26_2).f0).length c508_0, .int .i64 ((rd_T50 l0_1 x26_2).f1), .bool ((rd_T50 l0_1 x26_2).f2)]] rfl zm ?_; (with_reducible refine (impl_IsPiece.calls k2 _ _ ((rd_T50 l0_1 x26_2).f0) ((rd_T50 l0_1 x26_2).f1) ((rd_T50 l0_1 x26_2).f2) true _ ?side1 ?side2 A20.out).mono ?_); (case side1 => exact Kd.C_below HR508_0.out (zt GE506.out GE509.out)); (case side2 => exact HC508_0.out); rintro e w27 ⟨rfl, hb⟩; refine ⟨_, rfl, ?_⟩; have _ := aM (blk_below (g := gb506) (o := .cells #[.slice A0_0 l0_0.length c0_0, .slice (some ad508) l0_1.length c0_1] 31 (0, 0)) (by (with_reducible repeat (first | refine blk_drewN ?_ _ | refine blk_drew ?_ | refine blk_alloc ?_ _)); refine blk_far ?_ NB506_509.out _; (with_reducible repeat (first | refine blk_drewN ?_ _ | refine blk_drew ?_ | refine blk_alloc ?_ _)); refine blk_far ?_ NB506_509.out _; (with_reducible repeat (first | refine blk_drewN ?_ _ | refine blk_drew ?_ | refine blk_alloc ?_ _)); refine blk_far ?_ NB506_509.out _; (with_reducible repeat (first | refine blk_drewN ?_ _ | refine blk_drew ?_ | refine blk_alloc ?_ _)); exact BK506.out) hb); have _ := aM (blk_below (g := gb509) (o := .cells #[.slice A508_0 ((rd_T50 l0_1 x26_2).f0).length c508_0, .int .i64 ((rd_T50 l0_1 x26_2).f1), .bool ((rd_T50 l0_1 x26_2).f2)] 50 (0, 0)) (by (with_reducible repeat (first | refine blk_drewN ?_ _ | refine blk_drew ?_ | refine blk_alloc ?_ _)); refine blk_put (cs := #[.slice A508_0 ((rd_T50 l0_1 x26_2).f0).length c508_0, .int .i64 ((rd_T50 l0_1 x26_2).f1), .bool false]) ?_ 2 _ rfl; (with_reducible repeat (first | refine blk_drewN ?_ _ | refine blk_drew ?_ | refine blk_alloc ?_ _)); refine blk_put (cs := #[.slice A508_0 ((rd_T50 l0_1 x26_2).f0).length c508_0, .int .i64 0, .bool false]) ?_ 1 _ rfl; (with_reducible repeat (first | refine blk_drewN ?_ _ | refine blk_drew ?_ | refine blk_alloc ?_ _)); refine blk_put (cs := #[.slice none 0 0, .int .i64 0, .bool false]) ?_ 0 _ rfl; (with_reducible repeat (first | refine blk_drewN ?_ _ | refine blk_drew ?_ | refine blk_alloc ?_ _)); exact BK509.out) hb); have _ := aM (below_step (zt GE506.out GE509.out) hb); clear BK506 BK509 HB; rename_i BK506 BK509 HB; (try clear hb); (try clear hb2); (try clear hk); (try clear hi); obtain ⟨hcz28_0, hcz28_1, hfz28_0, hfz28_1⟩ := zQ2 BK506.out; have q29 : (x26_2 : Int) ≤ ((l0_1.length : Int) : Int) := of_decide_eq_true za; obtain ⟨i029, hi029, _, hsz29, _⟩ := info_parts info50; have hroom29 : l0_1.length ≤ c0_1 := HC0_1.out; have hC29 : Kd.C k50 _ (some ad508) l0_1.length l0_1 := HR0_1.out; have hcut29 := cut_to (P := Tryz.prog) 29 50 .i64 Tryz.underlying29 hi029 (some ad508) l0_1.length c0_1 x26_2 (of_decide_eq_true za) q29 hroom29; have hr29 := Kd.C_take (m := (x26_2 : Int).toNat) hC29 (by omega); have hy29 : y511.length = (x26_2 : Int).toNat := (by rw [Ny511.out, List.length_take]; omega); rw [← Ny511.out] at hr29; rw [← hy29] at hcut29; have HR514 := aM hr29; have HC514 := aM (show y511.length ≤ c0_1 from by omega); clear hr29 hC29 hroom29 hi029 hsz29; have KY29 := aM hy29; clear hy29; replace q29 := eq_true q29))
     go_loopg [39] k2 (fun kq v39 w' => ∃ (x39_3 : Int), v39 = .int .i64 x39_3 ∧ Aside0 (impl_IsPuzzle.l1 kq l0_1 (l0_1.length : Int) x26_2 y511 (y511.length : Int) x39_3 l0_0 l0_1 ((rd_T50 l0_1 x26_2).f0) ((rd_T50 l0_1 x26_2).f1) ((rd_T50 l0_1 x26_2).f2) = some r) ∧ Aside0 (kq ≤ k2) ∧ Aside0 (w'.heap[gb506]? = some (.cells #[(.slice A0_0 l0_0.length c0_0), (.slice (some ad508) l0_1.length c0_1)] 31 (0, 0))) ∧ Aside0 (w'.heap[gb509]? = some (.cells #[(.slice A508_0 ((rd_T50 l0_1 x26_2).f0).length c508_0), .int .i64 ((rd_T50 l0_1 x26_2).f1), .bool ((rd_T50 l0_1 x26_2).f2)] 50 (0, 0))) ∧ Aside0 (Below w.heap.size w w'))
     case atStart => exact ⟨(0), zr, H', ⟨Nat.le_refl _⟩, ⟨mB_ BK506.out⟩, ⟨mB_ BK509.out⟩, ⟨zt GE506.out GE509.out⟩⟩
     case round =>
      clear H'
      try clear c1
      try clear c2
      try clear p2
      try clear q2
      try clear c4
      try clear c5
      try clear p5
      try clear q5
      try clear hx5
      try clear c6
      try clear c6b0
      try clear c6b1
      try clear c15
      try clear c17
      try clear c17b0
      try clear c18
      try clear c18b0
      try clear c19
      try clear c19b0
      try clear c21
      try clear c22
      try clear c22b0
      try clear c23
      try clear c23b0
      try clear c23b1
      try clear c25
      try clear q29
      try clear hcz10_0
      try clear hcz10_1
      try clear hcz12_0
      try clear hcz12_1
      try clear hcz13_0
      try clear hcz13_1
      try clear hcz16_0
      try clear hcz16_1
      try clear hcz26_0
      try clear hcz26_1
      try clear hcz26_2
      try clear hcz28_0
      try clear hcz28_1
      try clear hcz7_0
      try clear hcz7_1
      try clear hcz9_0
      try clear hcz9_1
      try clear hfz10_0
      try clear hfz10_1
      try clear hfz12_0
      try clear hfz12_1
      try clear hfz13_0
      try clear hfz13_1
      try clear hfz16_0
      try clear hfz16_1
      try clear hfz26_0
      try clear hfz26_1
      try clear hfz26_2
      try clear hfz28_0
      try clear hfz28_1
      try clear hfz7_0
      try clear hfz7_1
      try clear hfz9_0
      try clear hfz9_1
      try clear hx508_0
      try clear hx508_1
      try clear hx508_2
      try clear p2
      try clear p508
      try clear q29
      try clear q508
      obtain ⟨x39_3, rfl, HA, HK3, BK506, BK509, HB⟩ := hrel
      cases gk with
      | zero => exact absurd HA.out (by simp [impl_IsPuzzle.l1])
      | succ k3 =>
       have H := HA.out
       clear HA
       simp only [impl_IsPuzzle.l1] at H
       by_cases c30 : x39_3 < (y511.length : Int)
       rotate_left
       ·rw [if_neg c30] at H
        have c30b0 : decide (x39_3 < (y511.length : Int)) = false := decide_eq_false c30
        clear c30
        have H' := aM H
        clear H
        go_wp2
        go_roundg k3
        case measure => have := HJ1.out; have := HK2.out; have := HK3.out; omega
        case rel => exact ⟨(wrap64 (x26_2 + 1)), zr, H', ⟨by have := HJ1.out; have := HK2.out; have := HK3.out; omega⟩, ⟨mB_ BK506.out⟩, ⟨zt GE506.out GE509.out⟩⟩
       rw [if_pos c30] at H
       have c30b0 : decide (x39_3 < (y511.length : Int)) = true := decide_eq_true c30
       clear c30
       by_cases c31 : 0 ≤ x39_3
       rotate_left
       ·rw [if_neg c31] at H
        exact absurd H (by simp)
       rw [if_pos c31] at H
       have c31b0 : decide (0 ≤ x39_3) = true := decide_eq_true c31
       clear c31
       by_cases c32 : x39_3 < (y511.length : Int)
       rotate_left
       ·rw [if_neg c32] at H
        exact absurd H (by simp)
       rw [if_pos c32] at H
       have c32b0 : decide (x39_3 < (y511.length : Int)) = true := decide_eq_true c32
       clear c32
       by_cases c33 : (((rd_T50 l0_1 x26_2).f0).length : Int) = (((rd_T50 y511 x39_3).f0).length : Int)
       rotate_left
       ·rw [if_neg c33] at H
        have c33b0 : ((((rd_T50 l0_1 x26_2).f0).length : Int) == (((rd_T50 y511 x39_3).f0).length : Int)) = false := beq_eq_false_iff_ne.mpr c33
        have c33b1 : ((((rd_T50 l0_1 x26_2).f0).length : Int) != (((rd_T50 y511 x39_3).f0).length : Int)) = true := bne_iff_ne.mpr c33
        have c33b2 : (((rd_T50 l0_1 x26_2).f0).length == ((rd_T50 y511 x39_3).f0).length) = false := by first | simpa using c33 | (simp at c33 ⊢; omega)
        have H' := aM H
        clear H
        have p515 : 0 ≤ (x39_3 : Int) := of_decide_eq_true za
        have q515 : x39_3 < (y511.length : Int) := of_decide_eq_true za
        obtain ⟨ad515, A515_0, c515_0, e515, hx515_0, hx515_1, hx515_2, hl515_0, hi515_0⟩ := at_T50 HR514.out x39_3 p515 q515
        obtain rfl : ad508 = ad515 := (by injection e515)
        replace hx515_0 := zk HB.out hx515_0
        replace hx515_1 := zk HB.out hx515_1
        replace hx515_2 := zk HB.out hx515_2
        have HR515_0 := aM hi515_0
        have HC515_0 := aM hl515_0
        clear hi515_0 hl515_0
        replace p515 := eq_true p515
        replace q515 := eq_true q515
        go_wp2_with (first | ((with_reducible refine gate_dst (N := 6) rfl ?_); (try (refine gate_guard (by rfl) ?_; dsimp only)); refine zx 6 #[.slice none 0 0, .int .i64 0, .bool false] 50 ?_; intro gb516 hg w50 hbox hb; have _ := aM (blk_below (g := gb506) (o := .cells #[.slice A0_0 l0_0.length c0_0, .slice (some ad508) l0_1.length c0_1] 31 (0, 0)) (mB_ BK506.out) hb); have _ := aM (blk_below (g := gb509) (o := .cells #[.slice A508_0 ((rd_T50 l0_1 x26_2).f0).length c508_0, .int .i64 ((rd_T50 l0_1 x26_2).f1), .bool ((rd_T50 l0_1 x26_2).f2)] 50 (0, 0)) (mB_ BK509.out) hb); have _ := aM (below_step (zt GE506.out GE509.out) hb); have _ := aM (hbox); have _ := aM ((by rw [hg]; exact (below_size (zt GE506.out GE509.out)) : w.heap.size ≤ gb516)); have _ := aM ((by rw [hg]; exact (below_size (zt GE506.out GE509.out)) : w.heap.size ≤ gb516)); have _ := aM ((zl BK506.out : gb506 ≠ gb516)); have _ := aM ((zn BK506.out : gb516 ≠ gb506)); have _ := aM ((zl BK509.out : gb509 ≠ gb516)); have _ := aM ((zn BK509.out : gb516 ≠ gb509)); clear BK506 BK509 HB; rename_i BK506 BK509 HB BK516 GW516 GE516 NB506_516 NB516_506 NB509_516 NB516_509; clear hb hbox hg; have hnb51 := NB516_506.out; have hnc51 := NB506_516.out; have hnb52 := NB516_509.out; have hnc52 := NB509_516.out; obtain ⟨hcz53_0, hcz53_1, hcz53_2, hfz53_0, hfz53_1, hfz53_2⟩ := zQ3 BK516.out; have hnb54 := NB509_506.out; have hnc54 := NB506_509.out; obtain ⟨hcz55_0, hcz55_1, hcz55_2, hfz55_0, hfz55_1, hfz55_2⟩ := zQ3 BK509.out))
        go_roundg k3
        case measure => have := HJ1.out; have := HK2.out; have := HK3.out; omega
        case rel => exact ⟨(wrap64 (x39_3 + 1)), zr, H', ⟨by have := HJ1.out; have := HK2.out; have := HK3.out; omega⟩, ⟨by (with_reducible repeat (first | refine blk_drewN ?_ _ | refine blk_drew ?_ | refine blk_alloc ?_ _)); refine blk_far ?_ NB506_516.out _; (with_reducible repeat (first | refine blk_drewN ?_ _ | refine blk_drew ?_ | refine blk_alloc ?_ _)); refine blk_far ?_ NB506_516.out _; (with_reducible repeat (first | refine blk_drewN ?_ _ | refine blk_drew ?_ | refine blk_alloc ?_ _)); refine blk_far ?_ NB506_516.out _; (with_reducible repeat (first | refine blk_drewN ?_ _ | refine blk_drew ?_ | refine blk_alloc ?_ _)); exact BK506.out⟩, ⟨by (with_reducible repeat (first | refine blk_drewN ?_ _ | refine blk_drew ?_ | refine blk_alloc ?_ _)); refine blk_far ?_ NB509_516.out _; (with_reducible repeat (first | refine blk_drewN ?_ _ | refine blk_drew ?_ | refine blk_alloc ?_ _)); refine blk_far ?_ NB509_516.out _; (with_reducible repeat (first | refine blk_drewN ?_ _ | refine blk_drew ?_ | refine blk_alloc ?_ _)); refine blk_far ?_ NB509_516.out _; (with_reducible repeat (first | refine blk_drewN ?_ _ | refine blk_drew ?_ | refine blk_alloc ?_ _)); exact BK509.out⟩, ⟨by repeat (first | (with_reducible first | exact HB.out | apply below_alloc | apply pw_below_drewN | apply below_drew1 | refine below_set ?_ GE506.out | refine below_set ?_ GE509.out | refine below_set ?_ GE516.out) | exact HB.out)⟩⟩
       rw [if_pos c33] at H
       have c33b0 : ((((rd_T50 l0_1 x26_2).f0).length : Int) == (((rd_T50 y511 x39_3).f0).length : Int)) = true := beq_iff_eq.mpr c33
       have c33b1 : ((((rd_T50 l0_1 x26_2).f0).length : Int) != (((rd_T50 y511 x39_3).f0).length : Int)) = false := bne_eq_false_iff_eq.mpr c33
       have c33b2 : (((rd_T50 l0_1 x26_2).f0).length == ((rd_T50 y511 x39_3).f0).length) = true := by first | simpa using c33 | (simp at c33 ⊢; omega)
       clear c33
       replace H := Option.bind_eq_some_iff.mp H
       obtain ⟨t517, A340, H⟩ := H
       replace H : (if t517 = true then (some false) else (impl_IsPuzzle.l1 k3 l0_1 (l0_1.length : Int) x26_2 y511 (y511.length : Int) (wrap64 (x39_3 + 1)) l0_0 l0_1 ((rd_T50 l0_1 x26_2).f0) ((rd_T50 l0_1 x26_2).f1) ((rd_T50 l0_1 x26_2).f2))) = some r := H
       have A34 := aM A340
       clear A340
       by_cases c35 : t517 = true
       ·subst c35
        have H1 : (some false) = some r := by rw [if_pos rfl] at H; exact H
        clear H
        have H := H1
        clear H1
        obtain rfl := Option.some.inj H
        have p515 : 0 ≤ (x39_3 : Int) := of_decide_eq_true za
        have q515 : x39_3 < (y511.length : Int) := of_decide_eq_true za
        obtain ⟨ad515, A515_0, c515_0, e515, hx515_0, hx515_1, hx515_2, hl515_0, hi515_0⟩ := at_T50 HR514.out x39_3 p515 q515
        obtain rfl : ad508 = ad515 := (by injection e515)
        replace hx515_0 := zk HB.out hx515_0
        replace hx515_1 := zk HB.out hx515_1
        replace hx515_2 := zk HB.out hx515_2
        have HR515_0 := aM hi515_0
        have HC515_0 := aM hl515_0
        clear hi515_0 hl515_0
        replace p515 := eq_true p515
        replace q515 := eq_true q515
        go_wp2_with (first | ((with_reducible refine gate_dst (N := 6) rfl ?_); (try (refine gate_guard (by rfl) ?_; dsimp only)); refine zx 6 #[.slice none 0 0, .int .i64 0, .bool false] 50 ?_; intro gb516 hg w36 hbox hb; have _ := aM (blk_below (g := gb506) (o := .cells #[.slice A0_0 l0_0.length c0_0, .slice (some ad508) l0_1.length c0_1] 31 (0, 0)) (mB_ BK506.out) hb); have _ := aM (blk_below (g := gb509) (o := .cells #[.slice A508_0 ((rd_T50 l0_1 x26_2).f0).length c508_0, .int .i64 ((rd_T50 l0_1 x26_2).f1), .bool ((rd_T50 l0_1 x26_2).f2)] 50 (0, 0)) (mB_ BK509.out) hb); have _ := aM (below_step (zt GE506.out GE509.out) hb); have _ := aM (hbox); have _ := aM ((by rw [hg]; exact (below_size (zt GE506.out GE509.out)) : w.heap.size ≤ gb516)); have _ := aM ((by rw [hg]; exact (below_size (zt GE506.out GE509.out)) : w.heap.size ≤ gb516)); have _ := aM ((zl BK506.out : gb506 ≠ gb516)); have _ := aM ((zn BK506.out : gb516 ≠ gb506)); have _ := aM ((zl BK509.out : gb509 ≠ gb516)); have _ := aM ((zn BK509.out : gb516 ≠ gb509)); clear BK506 BK509 HB; rename_i BK506 BK509 HB BK516 GW516 GE516 NB506_516 NB516_506 NB509_516 NB516_509; clear hb hbox hg; have hnb37 := NB516_506.out; have hnc37 := NB506_516.out; have hnb38 := NB516_509.out; have hnc38 := NB509_516.out; obtain ⟨hcz39_0, hcz39_1, hcz39_2, hfz39_0, hfz39_1, hfz39_2⟩ := zQ3 BK516.out; have hnb40 := NB509_506.out; have hnc40 := NB506_509.out; obtain ⟨hcz41_0, hcz41_1, hcz41_2, hfz41_0, hfz41_1, hfz41_2⟩ := zQ3 BK509.out) | (go_at_call 51; (with_reducible refine (impl_alike.calls k3 _ _ ((rd_T50 l0_1 x26_2).f0) ((rd_T50 l0_1 x26_2).f1) ((rd_T50 l0_1 x26_2).f2) _ _ ((rd_T50 y511 x39_3).f0) ((rd_T50 y511 x39_3).f1) ((rd_T50 y511 x39_3).f2) true _ ?side1 ?side2 ?side3 ?side4 A34.out).mono ?_); (case side1 => exact Kd.C_below HR508_0.out (by repeat (first | (with_reducible first | exact HB.out | apply below_alloc | apply pw_below_drewN | apply below_drew1 | refine below_set ?_ GE506.out | refine below_set ?_ GE509.out | refine below_set ?_ GE516.out) | exact HB.out))); (case side2 => exact HC508_0.out); (case side3 => exact Kd.C_below HR515_0.out (by repeat (first | (with_reducible first | exact HB.out | apply below_alloc | apply pw_below_drewN | apply below_drew1 | refine below_set ?_ GE506.out | refine below_set ?_ GE509.out | refine below_set ?_ GE516.out) | exact HB.out))); (case side4 => exact HC515_0.out); rintro e w42 ⟨rfl, hb⟩; have _ := aM (blk_below (g := gb506) (o := .cells #[.slice A0_0 l0_0.length c0_0, .slice (some ad508) l0_1.length c0_1] 31 (0, 0)) (by (with_reducible repeat (first | refine blk_drewN ?_ _ | refine blk_drew ?_ | refine blk_alloc ?_ _)); refine blk_far ?_ NB506_516.out _; (with_reducible repeat (first | refine blk_drewN ?_ _ | refine blk_drew ?_ | refine blk_alloc ?_ _)); refine blk_far ?_ NB506_516.out _; (with_reducible repeat (first | refine blk_drewN ?_ _ | refine blk_drew ?_ | refine blk_alloc ?_ _)); refine blk_far ?_ NB506_516.out _; (with_reducible repeat (first | refine blk_drewN ?_ _ | refine blk_drew ?_ | refine blk_alloc ?_ _)); exact BK506.out) hb); have _ := aM (blk_below (g := gb509) (o := .cells #[.slice A508_0 ((rd_T50 l0_1 x26_2).f0).length c508_0, .int .i64 ((rd_T50 l0_1 x26_2).f1), .bool ((rd_T50 l0_1 x26_2).f2)] 50 (0, 0)) (by (with_reducible repeat (first | refine blk_drewN ?_ _ | refine blk_drew ?_ | refine blk_alloc ?_ _)); refine blk_far ?_ NB509_516.out _; (with_reducible repeat (first | refine blk_drewN ?_ _ | refine blk_drew ?_ | refine blk_alloc ?_ _)); refine blk_far ?_ NB509_516.out _; (with_reducible repeat (first | refine blk_drewN ?_ _ | refine blk_drew ?_ | refine blk_alloc ?_ _)); refine blk_far ?_ NB509_516.out _; (with_reducible repeat (first | refine blk_drewN ?_ _ | refine blk_drew ?_ | refine blk_alloc ?_ _)); exact BK509.out) hb); have _ := aM (blk_below (g := gb516) (o := .cells #[.slice A515_0 ((rd_T50 y511 x39_3).f0).length c515_0, .int .i64 ((rd_T50 y511 x39_3).f1), .bool ((rd_T50 y511 x39_3).f2)] 50 (0, 0)) (by (with_reducible repeat (first | refine blk_drewN ?_ _ | refine blk_drew ?_ | refine blk_alloc ?_ _)); refine blk_put (cs := #[.slice A515_0 ((rd_T50 y511 x39_3).f0).length c515_0, .int .i64 ((rd_T50 y511 x39_3).f1), .bool false]) ?_ 2 _ rfl; (with_reducible repeat (first | refine blk_drewN ?_ _ | refine blk_drew ?_ | refine blk_alloc ?_ _)); refine blk_put (cs := #[.slice A515_0 ((rd_T50 y511 x39_3).f0).length c515_0, .int .i64 0, .bool false]) ?_ 1 _ rfl; (with_reducible repeat (first | refine blk_drewN ?_ _ | refine blk_drew ?_ | refine blk_alloc ?_ _)); refine blk_put (cs := #[.slice none 0 0, .int .i64 0, .bool false]) ?_ 0 _ rfl; (with_reducible repeat (first | refine blk_drewN ?_ _ | refine blk_drew ?_ | refine blk_alloc ?_ _)); exact BK516.out) hb); have _ := aM (below_step (by repeat (first | (with_reducible first | exact HB.out | apply below_alloc | apply pw_below_drewN | apply below_drew1 | refine below_set ?_ GE506.out | refine below_set ?_ GE509.out | refine below_set ?_ GE516.out) | exact HB.out)) hb); clear BK506 BK509 BK516 HB; rename_i BK506 BK509 BK516 HB; (try clear hb); (try clear hb2); (try clear hk); (try clear hi)))
        go_ret
        exact ⟨zw, by repeat (first | (with_reducible first | exact HB.out | apply below_alloc | apply pw_below_drewN | apply below_drew1 | refine below_set ?_ GE506.out | refine below_set ?_ GE509.out | refine below_set ?_ GE516.out) | exact HB.out)⟩
       replace c35 := Bool.eq_false_iff.mpr c35
       subst c35
       have H1 : (impl_IsPuzzle.l1 k3 l0_1 (l0_1.length : Int) x26_2 y511 (y511.length : Int) (wrap64 (x39_3 + 1)) l0_0 l0_1 ((rd_T50 l0_1 x26_2).f0) ((rd_T50 l0_1 x26_2).f1) ((rd_T50 l0_1 x26_2).f2)) = some r := by rw [if_neg (show ¬ (false = true) by decide)] at H; exact H
       clear H
       have H := H1
       clear H1
       have H' := aM H
       clear H
       have p515 : 0 ≤ (x39_3 : Int) := of_decide_eq_true za
       have q515 : x39_3 < (y511.length : Int) := of_decide_eq_true za
       obtain ⟨ad515, A515_0, c515_0, e515, hx515_0, hx515_1, hx515_2, hl515_0, hi515_0⟩ := at_T50 HR514.out x39_3 p515 q515
       obtain rfl : ad508 = ad515 := (by injection e515)
       replace hx515_0 := zk HB.out hx515_0
       replace hx515_1 := zk HB.out hx515_1
       replace hx515_2 := zk HB.out hx515_2
       have HR515_0 := aM hi515_0
       have HC515_0 := aM hl515_0
       clear hi515_0 hl515_0
       replace p515 := eq_true p515
       replace q515 := eq_true q515
       go_wp2_with (first | ((with_reducible refine gate_dst (N := 6) rfl ?_); (try (refine gate_guard (by rfl) ?_; dsimp only)); refine zx 6 #[.slice none 0 0, .int .i64 0, .bool false] 50 ?_; intro gb516 hg w43 hbox hb; have _ := aM (blk_below (g := gb506) (o := .cells #[.slice A0_0 l0_0.length c0_0, .slice (some ad508) l0_1.length c0_1] 31 (0, 0)) (mB_ BK506.out) hb); have _ := aM (blk_below (g := gb509) (o := .cells #[.slice A508_0 ((rd_T50 l0_1 x26_2).f0).length c508_0, .int .i64 ((rd_T50 l0_1 x26_2).f1), .bool ((rd_T50 l0_1 x26_2).f2)] 50 (0, 0)) (mB_ BK509.out) hb); have _ := aM (below_step (zt GE506.out GE509.out) hb); have _ := aM (hbox); have _ := aM ((by rw [hg]; exact (below_size (zt GE506.out GE509.out)) : w.heap.size ≤ gb516)); have _ := aM ((by rw [hg]; exact (below_size (zt GE506.out GE509.out)) : w.heap.size ≤ gb516)); have _ := aM ((zl BK506.out : gb506 ≠ gb516)); have _ := aM ((zn BK506.out : gb516 ≠ gb506)); have _ := aM ((zl BK509.out : gb509 ≠ gb516)); have _ := aM ((zn BK509.out : gb516 ≠ gb509)); clear BK506 BK509 HB; rename_i BK506 BK509 HB BK516 GW516 GE516 NB506_516 NB516_506 NB509_516 NB516_509; clear hb hbox hg; have hnb44 := NB516_506.out; have hnc44 := NB506_516.out; have hnb45 := NB516_509.out; have hnc45 := NB509_516.out; obtain ⟨hcz46_0, hcz46_1, hcz46_2, hfz46_0, hfz46_1, hfz46_2⟩ := zQ3 BK516.out; have hnb47 := NB509_506.out; have hnc47 := NB506_509.out; obtain ⟨hcz48_0, hcz48_1, hcz48_2, hfz48_0, hfz48_1, hfz48_2⟩ := zQ3 BK509.out) | (go_at_call 51; (with_reducible refine (impl_alike.calls k3 _ _ ((rd_T50 l0_1 x26_2).f0) ((rd_T50 l0_1 x26_2).f1) ((rd_T50 l0_1 x26_2).f2) _ _ ((rd_T50 y511 x39_3).f0) ((rd_T50 y511 x39_3).f1) ((rd_T50 y511 x39_3).f2) false _ ?side1 ?side2 ?side3 ?side4 A34.out).mono ?_); (case side1 => exact Kd.C_below HR508_0.out (by repeat (first | (with_reducible first | exact HB.out | apply below_alloc | apply pw_below_drewN | apply below_drew1 | refine below_set ?_ GE506.out | refine below_set ?_ GE509.out | refine below_set ?_ GE516.out) | exact HB.out))); (case side2 => exact HC508_0.out); (case side3 => exact Kd.C_below HR515_0.out (by repeat (first | (with_reducible first | exact HB.out | apply below_alloc | apply pw_below_drewN | apply below_drew1 | refine below_set ?_ GE506.out | refine below_set ?_ GE509.out | refine below_set ?_ GE516.out) | exact HB.out))); (case side4 => exact HC515_0.out); rintro e w49 ⟨rfl, hb⟩; have _ := aM (blk_below (g := gb506) (o := .cells #[.slice A0_0 l0_0.length c0_0, .slice (some ad508) l0_1.length c0_1] 31 (0, 0)) (by (with_reducible repeat (first | refine blk_drewN ?_ _ | refine blk_drew ?_ | refine blk_alloc ?_ _)); refine blk_far ?_ NB506_516.out _; (with_reducible repeat (first | refine blk_drewN ?_ _ | refine blk_drew ?_ | refine blk_alloc ?_ _)); refine blk_far ?_ NB506_516.out _; (with_reducible repeat (first | refine blk_drewN ?_ _ | refine blk_drew ?_ | refine blk_alloc ?_ _)); refine blk_far ?_ NB506_516.out _; (with_reducible repeat (first | refine blk_drewN ?_ _ | refine blk_drew ?_ | refine blk_alloc ?_ _)); exact BK506.out) hb); have _ := aM (blk_below (g := gb509) (o := .cells #[.slice A508_0 ((rd_T50 l0_1 x26_2).f0).length c508_0, .int .i64 ((rd_T50 l0_1 x26_2).f1), .bool ((rd_T50 l0_1 x26_2).f2)] 50 (0, 0)) (by (with_reducible repeat (first | refine blk_drewN ?_ _ | refine blk_drew ?_ | refine blk_alloc ?_ _)); refine blk_far ?_ NB509_516.out _; (with_reducible repeat (first | refine blk_drewN ?_ _ | refine blk_drew ?_ | refine blk_alloc ?_ _)); refine blk_far ?_ NB509_516.out _; (with_reducible repeat (first | refine blk_drewN ?_ _ | refine blk_drew ?_ | refine blk_alloc ?_ _)); refine blk_far ?_ NB509_516.out _; (with_reducible repeat (first | refine blk_drewN ?_ _ | refine blk_drew ?_ | refine blk_alloc ?_ _)); exact BK509.out) hb); have _ := aM (blk_below (g := gb516) (o := .cells #[.slice A515_0 ((rd_T50 y511 x39_3).f0).length c515_0, .int .i64 ((rd_T50 y511 x39_3).f1), .bool ((rd_T50 y511 x39_3).f2)] 50 (0, 0)) (by (with_reducible repeat (first | refine blk_drewN ?_ _ | refine blk_drew ?_ | refine blk_alloc ?_ _)); refine blk_put (cs := #[.slice A515_0 ((rd_T50 y511 x39_3).f0).length c515_0, .int .i64 ((rd_T50 y511 x39_3).f1), .bool false]) ?_ 2 _ rfl; (with_reducible repeat (first | refine blk_drewN ?_ _ | refine blk_drew ?_ | refine blk_alloc ?_ _)); refine blk_put (cs := #[.slice A515_0 ((rd_T50 y511 x39_3).f0).length c515_0, .int .i64 0, .bool false]) ?_ 1 _ rfl; (with_reducible repeat (first | refine blk_drewN ?_ _ | refine blk_drew ?_ | refine blk_alloc ?_ _)); refine blk_put (cs := #[.slice none 0 0, .int .i64 0, .bool false]) ?_ 0 _ rfl; (with_reducible repeat (first | refine blk_drewN ?_ _ | refine blk_drew ?_ | refine blk_alloc ?_ _)); exact BK516.out) hb); have _ := aM (below_step (by repeat (first | (with_reducible first | exact HB.out | apply below_alloc | apply pw_below_drewN | apply below_drew1 | refine below_set ?_ GE506.out | refine below_set ?_ GE509.out | refine below_set ?_ GE516.out) | exact HB.out)) hb); clear BK506 BK509 BK516 HB; rename_i BK506 BK509 BK516 HB; (try clear hb); (try clear hb2); (try clear hk); (try clear hi)))
       go_roundg k3
       case measure => have := HJ1.out; have := HK2.out; have := HK3.out; omega
       case rel => exact ⟨(wrap64 (x39_3 + 1)), zr, H', ⟨by have := HJ1.out; have := HK2.out; have := HK3.out; omega⟩, ⟨mB_ BK506.out⟩, ⟨mB_ BK509.out⟩, ⟨by repeat (first | (with_reducible first | exact HB.out | apply below_alloc | apply pw_below_drewN | apply below_drew1 | refine below_set ?_ GE506.out | refine below_set ?_ GE509.out | refine below_set ?_ GE516.out) | exact HB.out)⟩⟩
end Go.Proofs.YtipafadbhmngnaaGreatDoor.F
end
section
namespace Go.Proofs.YtipafadbhmngnaaGreatDoor.F
open Go.RowKit Go.Proofs.YtipafadbhmngnaaGreatDoorW.PrintWords Go.Proofs.YtipafadbhmngnaaGreatDoorW.PrintLast Go.Proofs.YtipafadbhmngnaaGreatDoorW.PrintMore
attribute [local go_sem] max2_int min2_int max_two min_two max_three min_three max_four min_four
set_option linter.unusedVariables false
set_option linter.unusedSimpArgs false
def inC (S : List S82) (x y : Nat) : Bool := S.any fun c => c.f0 == (x : Int) && c.f1 == (y : Int)
def dotI (S : List S82) (x y : Nat) : Int := if inC S x y = true then 35 else 46
def rowI (S : List S82) (W y : Nat) : List Int := (List.range W).map fun x => dotI S x y
def txtL (S : List S82) (W H : Nat) : List ByteArray := (List.range H).map fun y => strOfNums (rowI S W y)
def joinT (xs : List ByteArray) : ByteArray := ⟨(Lib.join (xs.map (·.data.toList)) [47]).toArray⟩
def inBox (m1 m2 : Int) (c : S82) : Bool := decide (0 ≤ c.f0 ∧ c.f0 ≤ m1 ∧ 0 ≤ c.f1 ∧ c.f1 ≤ m2)
def sl9 (W : Nat) (p : Nat × Nat) : Value := .slice (some ⟨p.1, 0, none⟩) W p.2
def outer (W H : Nat) (bs : List (Nat × Nat)) : Array Value := (bs.map (sl9 W) ++ List.replicate (H - bs.length) (Value.slice none 0 0)).toArray
def RowB (w : World) (b W : Nat) (f : Nat → Int) : Prop := ∃ cs fr, w.heap[b]? = some (.cells cs 5 fr) ∧ W ≤ fr.1 ∧ ∀ x, x < W → cs[x]? = some (.int .u8 (f x))
def RW (w0 w : World) (R W H : Nat) (bs : List (Nat × Nat)) (S : List S82) : Prop :=
  w.heap[R]? = some (.cells (outer W H bs) 39 (0, 0)) ∧ w0.heap.size ≤ R ∧ (∀ p ∈ bs, w0.heap.size ≤ p.1 ∧ p.1 ≠ R) ∧ (bs.map Prod.fst).Nodup ∧ (∀ (y : Nat) (p : Nat × Nat), bs[y]? = some p → RowB w p.1 W fun x => dotI S x y) ∧ Below w0.heap.size w0 w
theorem inC_snoc (S : List S82) (x y x' y' : Nat) : inC (S ++ [⟨(x : Int), (y : Int)⟩]) x' y' = (inC S x' y' || (decide (x = x') && decide (y = y'))) := by
  unfold inC
  rw [List.any_append]
  congr 1
  simp only [List.any_cons, List.any_nil, Bool.or_false]
  congr 1
  · by_cases h : x = x'
    · subst h; simp
    · rw [decide_eq_false h, beq_eq_false_iff_ne]; omega
  · by_cases h : y = y'
    · subst h; simp
    · rw [decide_eq_false h, beq_eq_false_iff_ne]; omega
section
variable {w0 w w1 : World} {R W H : Nat} {bs : List (Nat × Nat)} {S : List S82}
theorem rowB_lt {b : Nat} {f : Nat → Int} (h : RowB w b W f) : b < w.heap.size := by
  obtain ⟨cs, fr, h1, _⟩ := h
  exact (Array.getElem?_eq_some_iff.1 h1).1
theorem rowB_keep {b : Nat} {f : Nat → Int} (h : RowB w b W f) (he : w1.heap[b]? = w.heap[b]?) : RowB w1 b W f := by
  obtain ⟨cs, fr, h1, h2⟩ := h
  exact ⟨cs, fr, he.trans h1, h2⟩
theorem rw_below (h : RW w0 w R W H bs S) (hb : Below w.heap.size w w1) : RW w0 w1 R W H bs S := by
  obtain ⟨h1, h2, h3, h4, h5, h6⟩ := h
  exact ⟨blk_below h1 hb, h2, h3, h4, fun y p hp => rowB_keep (h5 y p hp) (hb.block p.1 (rowB_lt (h5 y p hp))), below_step h6 hb⟩
theorem rw_far (h : RW w0 w R W H bs S) {g : Nat} (hR : R ≠ g) (hb : ∀ p ∈ bs, p.1 ≠ g) (hg : w0.heap.size ≤ g) (j : Nat) (u : Value) : RW w0 (w.setCell ⟨g, j, none⟩ u) R W H bs S := by
  obtain ⟨h1, h2, h3, h4, h5, h6⟩ := h
  exact ⟨blk_far h1 hR u, h2, h3, h4, fun y p hp => rowB_keep (h5 y p hp) (Below.heap_setCell _ _ _ p.1 (hb p (List.mem_of_getElem? hp))), below_set h6 hg⟩
theorem rw_old (h : RW w0 w R W H bs S) {g : Nat} {o : Obj} (hg : w.heap[g]? = some o) (ht : ∀ cs fr, o ≠ .cells cs 39 fr ∧ o ≠ .cells cs 5 fr) : R ≠ g ∧ ∀ p ∈ bs, p.1 ≠ g := by
  obtain ⟨h1, h2, h3, h4, h5, h6⟩ := h
  constructor
  · rintro rfl
    rw [h1] at hg
    injection hg with hg
    exact (ht _ _).1 hg.symm
  · rintro p hp rfl
    obtain ⟨y, hy⟩ := List.getElem?_of_mem hp
    obtain ⟨cs, fr, h7, _⟩ := h5 y p hy
    rw [h7] at hg
    injection hg with hg
    exact (ht _ _).2 hg.symm
theorem outer_at (hH : bs.length ≤ H) {y : Nat} {p : Nat × Nat} (hp : bs[y]? = some p) : (outer W H bs)[y]? = some (sl9 W p) := by
  have hl := (List.getElem?_eq_some_iff.1 hp).1
  unfold outer
  rw [List.getElem?_toArray, List.getElem?_append_left (by rw [List.length_map]; exact hl), List.getElem?_map, hp]
  rfl
theorem outer_next (hH : bs.length < H) : (outer W H bs)[bs.length]? = some (.slice none 0 0) := by
  unfold outer
  rw [List.getElem?_toArray, List.getElem?_append_right (by rw [List.length_map]; exact Nat.le_refl _), List.length_map, Nat.sub_self, show H - bs.length = (H - (bs.length + 1)) + 1 by omega, List.replicate_succ]
  rfl
theorem outer_put (hH : bs.length < H) (p : Nat × Nat) : (outer W H bs).setIfInBounds bs.length (sl9 W p) = outer W H (bs ++ [p]) := by
  unfold outer
  rw [show H - bs.length = (H - (bs.length + 1)) + 1 by omega, List.replicate_succ, List.length_append, List.length_singleton]
  simp only [List.map_append, List.map_cons, List.setIfInBounds_toArray, List.map_nil, List.append_assoc]
  congr 1
  rw [List.set_append_right _ _ (by rw [List.length_map]; exact Nat.le_refl _), List.length_map, Nat.sub_self]
  rfl
theorem rw_cell (h : RW w0 w R W H bs S) (hH : bs.length ≤ H) {y : Nat} {p : Nat × Nat} (hp : bs[y]? = some p) : w.cell? ⟨R, y, none⟩ = some (sl9 W p) := by
  rw [blk_cell h.1 y]
  exact outer_at hH hp
theorem rw_byte (h : RW w0 w R W H bs S) {x y : Nat} {p : Nat × Nat} (hp : bs[y]? = some p) (hx : x < W) : w.cell? ⟨p.1, x, none⟩ = some (.int .u8 (dotI S x y)) ∧ w.frozen? ⟨p.1, x, none⟩ = false := by
  obtain ⟨cs, fr, h1, h2, h3⟩ := h.2.2.2.2.1 y p hp
  constructor
  · simp only [World.cell?, h1]
    exact h3 x hx
  · obtain ⟨lo, hi⟩ := fr
    simp only [World.frozen?, h1, Bool.and_eq_false_imp, decide_eq_true_eq]
    intro h4
    simp only at h2
    omega
theorem rw_make (hR : w.heap[R]? = some (.cells (outer W H []) 39 (0, 0))) (h2 : w0.heap.size ≤ R) (h6 : Below w0.heap.size w0 w) : RW w0 w R W H [] S := by
  refine ⟨hR, h2, ?_, List.nodup_nil, ?_, h6⟩
  · intro p hp
    cases hp
  · intro y p hp
    simp at hp
theorem rw_add (h : RW w0 w R W H bs S) (hH : bs.length < H) {b c : Nat} (hB : RowB w b W fun x => dotI S x bs.length) (hb : w0.heap.size ≤ b) (hbR : b ≠ R) (hn : ∀ p ∈ bs, p.1 ≠ b) : RW w0 (w.setCell ⟨R, bs.length, none⟩ (sl9 W (b, c))) R W H (bs ++ [(b, c)]) S := by
  obtain ⟨h1, h2, h3, h4, h5, h6⟩ := h
  refine ⟨blk_put h1 bs.length (sl9 W (b, c)) (outer_put hH (b, c)), h2, fun p hp => ?_, ?_, fun y p hp => ?_, below_set h6 h2⟩
  · rcases List.mem_append.1 hp with hp | hp
    · exact h3 p hp
    · obtain rfl := List.mem_singleton.1 hp
      exact ⟨hb, hbR⟩
  · rw [List.map_append, List.nodup_append]
    refine ⟨h4, by simp, fun x hx y hy => ?_⟩
    obtain ⟨p, hp, rfl⟩ := List.mem_map.1 hx
    simp only [List.map_cons, List.map_nil, List.mem_singleton] at hy
    subst hy
    exact hn p hp
  · by_cases hy : y < bs.length
    · rw [List.getElem?_append_left hy] at hp
      exact rowB_keep (h5 y p hp) (Below.heap_setCell _ _ _ p.1 (h3 p (List.mem_of_getElem? hp)).2)
    · rw [List.getElem?_append_right (by omega)] at hp
      have hy2 : y = bs.length := by
        have := (List.getElem?_eq_some_iff.1 hp).1
        simp at this
        omega
      subst hy2
      rw [Nat.sub_self] at hp
      simp at hp
      subst hp
      exact rowB_keep hB (Below.heap_setCell _ _ _ b hbR)
theorem rw_put (h : RW w0 w R W H bs S) {x y : Nat} {p : Nat × Nat} (hp : bs[y]? = some p) (hx : x < W) : RW w0 (w.setCell ⟨p.1, x, none⟩ (.int .u8 35)) R W H bs (S ++ [⟨(x : Int), (y : Int)⟩]) := by
  obtain ⟨h1, h2, h3, h4, h5, h6⟩ := h
  have hm := h3 p (List.mem_of_getElem? hp)
  refine ⟨blk_far h1 (Ne.symm hm.2) _, h2, h3, h4, fun y' q hq => ?_, below_set h6 hm.1⟩
  by_cases e : y' = y
  · subst e
    rw [hp] at hq
    obtain rfl := Option.some.inj hq
    obtain ⟨cs, fr, h7, h8, h9⟩ := h5 y' p hp
    refine ⟨cs.setIfInBounds x (.int .u8 35), fr, ?_, h8, fun x' hx' => ?_⟩
    · simp [World.setCell, Array.getElem?_modify, h7]
    · show _ = some (Value.int .u8 (dotI (S ++ [⟨(x : Int), (y' : Int)⟩]) x' y'))
      unfold dotI
      rw [inC_snoc]
      by_cases ex : x = x'
      · subst ex
        have hlt : x < cs.size := by
          have := h9 x hx
          exact (Array.getElem?_eq_some_iff.1 this).1
        rw [Array.getElem?_setIfInBounds_self_of_lt hlt]
        simp
      · rw [Array.getElem?_setIfInBounds_ne ex, h9 x' hx']
        simp [dotI, ex]
  · have hne : q.1 ≠ p.1 := by
      intro he
      have hi : y < (bs.map Prod.fst).length := by rw [List.length_map]; exact (List.getElem?_eq_some_iff.1 hp).1
      have hi' : y' < (bs.map Prod.fst).length := by rw [List.length_map]; exact (List.getElem?_eq_some_iff.1 hq).1
      obtain ⟨_, e1⟩ := List.getElem?_eq_some_iff.1 hp
      obtain ⟨_, e2⟩ := List.getElem?_eq_some_iff.1 hq
      have h9 : (bs.map Prod.fst)[y'] = (bs.map Prod.fst)[y] := by rw [List.getElem_map, List.getElem_map, e1, e2, he]
      rcases Nat.lt_or_gt_of_ne e with hlt | hlt
      · exact List.pairwise_iff_getElem.1 h4 y' y hi' hi hlt h9
      · exact List.pairwise_iff_getElem.1 h4 y y' hi hi' hlt h9.symm
    have hf := rowB_keep (h5 y' q hq) (Below.heap_setCell w ⟨p.1, x, none⟩ (.int .u8 35) q.1 hne)
    have hfun : (fun x' => dotI (S ++ [⟨(x : Int), (y : Int)⟩]) x' y') = fun x' => dotI S x' y' := by
      funext x'
      unfold dotI
      rw [inC_snoc]
      have : ¬ y = y' := fun h => e h.symm
      simp [this]
    rw [hfun]
    exact hf
end
def impl_shapeText.f (k : Nat) (l0 : List S82) : Option ByteArray :=
  (impl_normal.f k l0).bind fun own => (impl_reach.f k own).bind fun m => if (own.length ≤ 1000000 ∧ 0 ≤ m.1 ∧ m.1 ≤ 100000 ∧ 0 ≤ m.2 ∧ m.2 ≤ 100000) ∧ own.all (inBox m.1 m.2) = true then some (joinT (txtL own (m.1.toNat + 1) (m.2.toNat + 1))) else none
theorem w9_ {n : Nat} (h : n ≤ 100000) : wrap64 ((n : Int) + 1) = ((n + 1 : Nat) : Int) := by unfold wrap64; omega
theorem madeC (z : Value) (n : Nat) (hz : z.cells = #[z]) : madeCells z.cells (n * 1) = (List.replicate n z).toArray := by
  rw [hz, Nat.mul_one]
  apply Array.ext
  · rw [size_madeCells]; simp
  · intro i h1 h2
    simp [madeCells, Nat.mod_one]
theorem outer0 (W H : Nat) : outer W H [] = (List.replicate H (Value.slice none 0 0)).toArray := by
  unfold outer
  simp
theorem getD_rep (n j : Nat) (h : j < n) : (Lib.repeatL [46] n).getD j 0 = 46 := by
  induction n generalizing j with
  | zero => omega
  | succ n ih =>
    rw [Lib.repeatL]
    cases j with
    | zero => rfl
    | succ j =>
      have := ih j (by omega)
      simpa using this
theorem rep_size (n : Nat) : (⟨(Lib.repeatL [46] n).toArray⟩ : ByteArray).size = n := by
  show (Lib.repeatL [46] n).toArray.size = n
  rw [List.size_toArray, Lib.repeatL_length]
  simp
section
variable {P : Program} {ops : Array Oper} {rest : List Oper} {o : Oper} {a : Act} {Q : Exit → Act → World → Prop}
theorem make_event {W : World} (hgd : o.guard = none) {N : Tmp} (_hd : o.dst = some N) (t e : TypeId) (x y : Operand) (ho : o.op = .makeSlice t x y) (n : Nat) (hx : a.eval x = .int .i64 n) (hy : a.eval y = .int .i64 n)
    (ht : P.underlying t = some (.slice e)) (z : Value) (bytes : Nat) (hinfo : (P.info? e).map (fun i => (i.zero, i.size, i.bytes)) = some (some z, 1, bytes)) (hz : z.cells = #[z]) (hl : bytes * n ≤ 281474976710656) (hn : n ≤ 9223372036854775807)
    (h : ∀ g, g = W.heap.size → ∀ w1, w1.heap[g]? = some (.cells (List.replicate n z).toArray e (0, 0)) → Below W.heap.size W w1 → wpList P ops Q rest (a.put o.dst (.slice (some ⟨g, 0, none⟩) n n)) w1) : wpList P ops Q (o :: rest) a W := by
  have hrun : (execOp a.eval o).run P W = .ok (.value (.slice (some ⟨W.heap.size, 0, none⟩) n n)) (W.alloc (.cells (madeCells #[z] n) e)) := by
    simp [execOp, ho, hx, hy, run_make_row' t e z bytes ht hinfo hz .i64 .i64 n hl hn W]
  have h9 := madeC z n hz
  rw [hz, Nat.mul_one] at h9
  rw [h9] at hrun
  exact Kd.event_run hgd hrun (h _ rfl _ (blk_new W _) (below_alloc (Below.refl _ _) _))
theorem bytes_event {W : World} (hgd : o.guard = none) {N : Tmp} (_hd : o.dst = some N) (src dst e : TypeId) (x : Operand) (ho : o.op = .convert src dst x) (s : ByteArray) (hx : a.eval x = .string s) {u : TypeDesc}
    (hs : P.underlying src = some u) (hd : P.underlying dst = some (.slice e)) (he : P.underlying e = some (.int .u8)) (hee : e = 5)
    (h : ∀ g c, g = W.heap.size → ∀ w1, RowB w1 g s.size (fun x => ((s.data.toList.getD x 0).toNat : Int)) → Below W.heap.size W w1 → wpList P ops Q rest (a.put o.dst (.slice (some ⟨g, 0, none⟩) s.size c)) w1) : wpList P ops Q (o :: rest) a W := by
  have hrun : (execOp a.eval o).run P W = .ok (.value (.slice (some ⟨W.heap.size, 0, none⟩) s.size (grownCap W s.size 0 e))) (Lib.bytesWorld W e s) := by
    simp [execOp, ho, hx, Lib.run_convert_string_bytes W src dst e s hs hd he]
  subst hee
  refine Kd.event_run hgd hrun (h _ _ rfl _ ⟨_, _, Lib.bytesWorld_at_new W _ s, ?_, fun x hxl => ?_⟩ ?_)
  · show s.data.size ≤ (Lib.bytesCells W 5 s).size
    unfold Lib.bytesCells
    rw [Array.size_append, Array.size_map]
    exact Nat.le_add_right _ _
  · have hc := Lib.bytesWorld_cell W 5 s x hxl
    simpa [World.cell?, Lib.bytesWorld_at_new] using hc
  · refine ⟨?_, ?_, ?_, ?_, fun i hi => Lib.bytesWorld_at_old W _ s i hi⟩
    · simp [Lib.bytesWorld, World.freeze, World.alloc, World.drew, -World.alloc_eq, -World.drew_eq]
    · simp [Lib.bytesWorld, World.freeze, World.alloc, World.drew, -World.alloc_eq, -World.drew_eq]
    · simp [Lib.bytesWorld, World.freeze, World.alloc, World.drew, -World.alloc_eq, -World.drew_eq]
    · rw [Lib.bytesWorld_size]; omega
end
section
variable {P : Program} {ops : Array Oper} {rest : List Oper} {o : Oper} {a : Act} {Q : Exit → Act → World → Prop}
theorem str_event {W : World} (hgd : o.guard = none) {N : Tmp} (_hd : o.dst = some N) (src dst : TypeId) (x : Operand) (ho : o.op = .convert src dst x) (b n c : Nat) (hx : a.eval x = .slice (some ⟨b, 0, none⟩) n c)
    (hs : P.underlying src = some (.slice 5)) (he : P.underlying 5 = some (.int .u8)) (hd : P.underlying dst = some .string) {f : Nat → Int} (hB : RowB W b n f)
    (h : wpList P ops Q rest (a.put o.dst (.string (strOfNums ((List.range n).map f)))) W) : wpList P ops Q (o :: rest) a W := by
  obtain ⟨cs, fr, h1, h2, h3⟩ := hB
  have hrun := run_convert_bytes_arg (P := P) W src 5 hs he b 0 n c ((List.range n).map f) (by simp) (fun i hi => by
    rw [Nat.zero_add]
    simp only [World.cell?, h1]
    rw [h3 i hi]
    simp [List.getD, hi]) dst hd
  refine Kd.event_run hgd (v := .string (strOfNums ((List.range n).map f))) (w1 := W) ?_ h
  simp [execOp, ho, hx, hrun]
end
def txtC (xs : List ByteArray) (q : Nat) : Array Value := ((xs.take q).map Value.string ++ List.replicate (xs.length - q) (Value.string ByteArray.empty)).toArray
theorem txtC_at {xs : List ByteArray} {q : Nat} (h : q < xs.length) : (txtC xs q)[q]? = some (.string ByteArray.empty) := by
  have hl : ((xs.take q).map Value.string).length = q := by rw [List.length_map, List.length_take]; omega
  unfold txtC
  rw [List.getElem?_toArray, List.getElem?_append_right (by omega), hl, Nat.sub_self, show xs.length - q = (xs.length - (q + 1)) + 1 by omega, List.replicate_succ]
  rfl
end Go.Proofs.YtipafadbhmngnaaGreatDoor.F
end
