/- The row of FnSolidTotals, with what it needs: text 9 of 12. -/
import Derived.Test.YtlompfboheiliaaKST7
set_option maxHeartbeats 8000000
set_option maxRecDepth 100000
section
namespace Go.Proofs.Ytlompfboheiliaa.F
open Go.RowKit Go.Proofs.YtlompfboheiliaaW.PrintWords Go.Proofs.YtlompfboheiliaaW.PrintLast Go.Proofs.YtlompfboheiliaaW.PrintMore
attribute [local go_sem] max2_int min2_int max_two min_two max_three min_three max_four min_four
set_option linter.unusedVariables false
set_option linter.unusedSimpArgs false
attribute [local go_sem high] eqA43
open Go.Sort
section
variable {α : Type} [Inhabited α] {enc : α → Value} {w0 W : World} {blk off : Nat} {dk : Array α}
theorem SW_clear (h : SW enc w0 blk off dk W) (hblk : blk < w0.heap.size) (k : Nat) (xs : List α) (hk : k + xs.length ≤ dk.size) : ∃ dk' : Array α, dk'.size = dk.size ∧ dk'.toList.take k = dk.toList.take k ∧ SW enc w0 blk off dk' (W.setCells blk (off + k) (xs.map enc)) := by
  obtain ⟨m, os, rfl⟩ := h
  have hs : (Go.Lib.lay dk k xs).size = dk.size := by
    have : ∀ (xs : List α) (d : Array α) (k : Nat), (Go.Lib.lay d k xs).size = d.size := by
      intro xs
      induction xs with
      | nil => intro d k; rfl
      | cons x r ih => intro d k; rw [Go.Lib.lay, ih]; simp
    exact this _ _ _
  refine ⟨Go.Lib.lay dk k xs, hs, ?_, m, os, ?_⟩
  · apply List.ext_getElem?
    intro j
    by_cases hj : j < k
    · rw [List.getElem?_take_of_lt hj, List.getElem?_take_of_lt hj, Array.getElem?_toList, Go.Lib.lay_get? _ _ _ _ hk, if_neg (by omega), Array.getElem?_toList]
    · rw [List.getElem?_eq_none (by simp; omega), List.getElem?_eq_none (by simp; omega)]
  · unfold sortWorld
    rw [← putRow_grow enc (Go.Sort.ahead w0 m) os blk off dk hblk, Go.Lib.putRow_setCells enc _ blk off _ dk k hk, putRow_grow enc (Go.Sort.ahead w0 m) os blk off _ hblk]
end
theorem quietAt {P : Program} {f : FuncId} {args : Array Value} {w : World} {q a : Nat} {v : Value} (h : Calls P f args (w.drewN (q + a)) fun e w' => e = .returned v ∧ ∃ n, w' = (w.drewN (q + a)).drewN n) : Calls P f args (w.drewN (q + a)) fun e w' => e = .returned v ∧ ∃ n, w' = w.drewN (q + n) :=
  h.mono fun _ _ ⟨he, m, hm⟩ => ⟨he, a + m, by rw [hm, World.drewN_drewN, Nat.add_assoc]⟩
open Go.Sort
theorem equalF_rounds (a b : List S43) (hl : a.length = b.length) (hs : a.length ≤ 9223372036854775807) : ∀ (suf pre : List S43), a = pre ++ suf → ∀ k, suf.length < k → impl_Cube_44.l0 k a b (a.length : Int) (pre.length : Int) = some (decide (suf = b.drop pre.length)) := by
  intro suf
  induction suf with
  | nil =>
    intro pre hx k hk
    obtain ⟨k, rfl⟩ : ∃ m, k = m + 1 := ⟨k - 1, by omega⟩
    rw [List.append_nil] at hx
    subst hx
    simp only [impl_Cube_44.l0]
    rw [if_neg (by omega), List.drop_of_length_le (by omega)]
    rfl
  | cons c suf ih =>
    intro pre hx k hk
    obtain ⟨k, rfl⟩ : ∃ m, k = m + 1 := ⟨k - 1, by omega⟩
    have hla : a.length = pre.length + (suf.length + 1) := by rw [hx]; simp
    have hpb : pre.length < b.length := by omega
    have ea : rd_T43 a (pre.length : Int) = c := by
      unfold rd_T43
      rw [hx]
      simp [List.getD]
    have eb : rd_T43 b (pre.length : Int) = b[pre.length] := by
      unfold rd_T43
      rw [List.getD_eq_getElem?_getD, Int.toNat_natCast, List.getElem?_eq_getElem hpb]
      rfl
    have ew : wrap64 ((pre.length : Int) + 1) = ((pre ++ [c]).length : Int) := by
      rw [List.length_append, List.length_singleton]
      simp only [wrap64]
      omega
    have hi := ih (pre ++ [c]) (by rw [hx]; simp) k (by simp at hk; omega)
    rw [List.length_append, List.length_singleton] at hi ew
    simp only [impl_Cube_44.l0]
    rw [if_pos (by omega), if_pos (by omega), if_pos (by omega), if_pos (by omega), ea, eb, ew, hi, List.drop_eq_getElem_cons hpb]
    generalize b[pre.length] = e
    generalize b.drop (pre.length + 1) = t
    split
    · rename_i h
      have hne : c ≠ e := by
        rintro rfl
        simp at h
      simp [hne]
    · rename_i h
      have heq : c = e := by
        cases c
        cases e
        simp_all
      subst heq
      simp
theorem equal_rounds (a b : List S43) (hs : a.length ≤ 9223372036854775807) : ∃ k, impl_allSolids_1.f k a b = some (decide (a = b)) := by
  refine ⟨a.length + 1, ?_⟩
  unfold impl_allSolids_1.f impl_Cube_44.f
  by_cases hl : a.length = b.length
  · rw [if_pos (by omega)]
    have := equalF_rounds a b hl hs a [] rfl (a.length + 1) (by omega)
    simp only [List.length_nil, Int.natCast_zero, List.drop_zero] at this
    rw [this]
    rfl
  · rw [if_neg (by omega)]
    have : a ≠ b := fun e => hl (by rw [e])
    simp [this]
set_option maxHeartbeats 4000000 in
set_option maxRecDepth 1000000 in
theorem impl_Cube_42__impl_allSolids_1.rawE {W0 w : World} {ok : Nat → Prop} {base b cap : Nat} (d : Array (El W0 ok)) (hA : At w base b cap d) (hS : Same W0 w ok) (hg : ¬ ok b) (h0 : 0 < d.size) (hsz : d.size < 4611686018427387904)
    (heq : ∀ (W : World) (dk : Array (El W0 ok)), SW El.v w b 0 dk W → ∀ x y : El W0 ok, Calls Try.prog 43 #[x.v, y.v] W fun e w' => e = .returned (.bool (decide (x.l = y.l))) ∧ ∃ n, w' = W.drewN n) :
    Calls Try.prog 42 #[.slice (some ⟨b, 0, none⟩) d.size cap, .func (.func 43) #[] #[]] w fun e w' => ∃ (q : Nat) (dk : Array (El W0 ok)) (n : Nat) (os : Array Obj), e = .returned (.slice (some ⟨b, 0, none⟩) q cap) ∧ q ≤ dk.size ∧ dk.size = d.size ∧ (dk.toList.take q).map El.l = compF (d.toList.map El.l) ∧ (dk.toList.take q).Sublist d.toList ∧ w' = sortWorld El.v w b 0 n dk os := by
  have hlt := hA.lt
  have hH := hA.holds
  have hcap := hA.size
  have hcm := hA.max
  have hm : cap ≤ 9223372036854775807 := by unfold maxLen at hcm; omega
  have hO : OneCell (El.v (W0 := W0) (ok := ok)) := El.one
  have hcl0 := hO.cells
  simp only [Value.cells] at hcl0
  have hst := hO.store Try.prog
  have HE := aM heq
  have HH := aM hH
  have HL := aM hlt
  have hkey : (d.toList.map El.l).length = d.size := by simp
  have HK := aM hkey
  clear heq hH hlt hS hA hcm hkey hg
  by_cases h2 : d.size < 2
  · go_enter Try.func42, Try.ntmps42
    go_wp2
    go_ret
    have h1 := AllKeep.one (key := El.l) (d := d) (by omega)
    have e : d.size = 1 := by omega
    refine ⟨d.size, d, 0, #[], rfl, Nat.le_refl _, rfl, ?_, by rw [List.take_of_length_le (by simp)]; exact List.Sublist.refl _, (sortWorld_start El.v w b 0 d HH.out).symm⟩
    have := h1.2
    rw [List.take_of_length_le (by rw [HK.out]; omega)] at this
    rw [List.take_of_length_le (by simp), this]
  · go_enter Try.func42, Try.ntmps42
    go_wp2
    go_loopg [5] d.size (fun gh s5 wr => ∃ k q : Nat, 1 ≤ k ∧ k ≤ d.size ∧ d.size - k ≤ gh ∧ s5 = .int .i64 k ∧ wr = w.drewN q ∧ AllKeep El.l d k)
    case atStart => exact ⟨1, 0, Nat.le_refl _, by omega, by omega, rfl, rfl, AllKeep.one (by omega)⟩
    case round =>
      obtain ⟨k, q, hk1, hk, hgh, rfl, rfl, hall⟩ := hrel
      by_cases hlt : k < d.size
      · obtain ⟨c1, f1⟩ := HH.out k hlt
        obtain ⟨c0, f0⟩ := HH.out (k - 1) (by omega)
        rw [Nat.zero_add] at c1 c0 f1 f0
        have A := aM hall
        clear hall
        generalize hx : d[k]! = x at c1
        generalize hy : d[k - 1]! = y at c0
        have B : Aside0 (d[k]! = x ∧ d[k - 1]! = y) := ⟨⟨hx, hy⟩⟩
        clear hx hy
        by_cases hdup : x.l = y.l
        · have HD := aM hdup
          have i1 : IntKind.i64.wrap ((k : Int) - 1) = (k : Int) - 1 := IntWalk.i64_in _ (by omega)
          have i2 : (1 : Int) ≤ (k : Int) := by omega
          have i3 : ((k : Int) - 1).toNat = k - 1 := by omega
          have i4 : (k : Int) - 1 < (d.size : Int) := by omega
          have i5 : (0 : Int) ≤ (k : Int) - 1 := by omega
          go_wp2_with fail
          go_quiet ((exact quietAt (v := .bool true) ((HE.out _ d ((SW.start HH.out).drewN (q + _)) x y).mono fun _ _ hh => ⟨by rw [hh.1, decide_eq_true HD.out], hh.2⟩)))
          go_wp2
          clear c0 c1 f0 f1 i1 i2 i3 i4 i5
          go_loopg [5, 7] d.size (fun gh s5 s7 wr => ∃ (kk k2 : Nat) (dk : Array (El W0 ok)), s5 = .int .i64 kk ∧ s7 = .int .i64 k2 ∧ 1 ≤ k2 ∧ k + k2 ≤ d.size ∧ d.size - (k + k2) ≤ gh ∧ Aside0 (SW El.v w b 0 dk wr) ∧ Aside0 (CompIv El.l d (k + k2) kk dk))
          case atStart => exact ⟨k, 1, d, rfl, rfl, Nat.le_refl _, by omega, by omega, ⟨(SW.start HH.out).drewN _⟩, ⟨CompIv.start A.out (by omega) hlt (by rw [B.out.1, B.out.2]; exact HD.out)⟩⟩
          case round =>
            obtain ⟨kk, k2, dk, rfl, rfl, h1, hle, hg2, W2, I2⟩ := hrel
            have hkk := I2.out.lt
            have hds := I2.out.size
            have hHk : Holds El.v wr b 0 dk := W2.out.holds HL.out HH.out hds
            by_cases hlt2 : k + k2 < d.size
            · obtain ⟨cm, _⟩ := hHk (k + k2) (by omega)
              obtain ⟨cp, _⟩ := hHk (k + k2 - 1) (by omega)
              obtain ⟨ck, fk⟩ := hHk kk (by omega)
              rw [I2.out.high (k + k2) (by omega), Nat.zero_add] at cm
              rw [I2.out.high (k + k2 - 1) (by omega), Nat.zero_add, show k + k2 - 1 = k + (k2 - 1) by omega] at cp
              rw [Nat.zero_add] at ck fk
              clear hHk
              generalize hu : d[k + k2]! = u at cm
              generalize hv : d[k + (k2 - 1)]! = v at cp
              generalize dk[kk]! = old at ck
              have hv' : d[k + k2 - 1]! = v := by rw [show k + k2 - 1 = k + (k2 - 1) by omega]; exact hv
              have C : Aside0 (d[k + k2]! = u ∧ d[k + k2 - 1]! = v) := ⟨⟨hu, hv'⟩⟩
              clear hu hv hv'
              have i1 : IntKind.i64.wrap ((k2 : Int) - 1) = (k2 : Int) - 1 := IntWalk.i64_in _ (by omega)
              have i2 : (1 : Int) ≤ (k2 : Int) := by omega
              have i3 : ((k2 : Int) - 1).toNat = k2 - 1 := by omega
              have i4 : (k2 : Int) - 1 < ((d.size - k : Nat) : Int) := by omega
              have i5 : (0 : Int) ≤ (k2 : Int) - 1 := by omega
              have i6 : (k2 : Int) < ((d.size - k : Nat) : Int) := by omega
              by_cases huv : u.l = v.l
              · have HU := aM huv
                clear huv
                go_wp2_with fail
                go_quiet ((exact Calls.quiet_of (v := .bool true) ((HE.out _ dk (W2.out.drewN _) u v).mono fun _ _ hh => ⟨by rw [hh.1, decide_eq_true HU.out], hh.2⟩)))
                go_wp2
                go_roundg (d.size - (k + (k2 + 1)))
                case measure => omega
                case rel => exact ⟨kk, k2 + 1, dk, rfl, by go_num, by omega, by omega, Nat.le_refl _, ⟨W2.out.drewN _⟩, ⟨I2.out.skip hlt2 (by rw [C.out.1, C.out.2]; exact HU.out)⟩⟩
              · have HU := aM huv
                clear huv
                go_wp2_with fail
                go_quiet ((exact Calls.quiet_of (v := .bool false) ((HE.out _ dk (W2.out.drewN _) u v).mono fun _ _ hh => ⟨by rw [hh.1, decide_eq_false HU.out], hh.2⟩)))
                go_wp2
                go_roundg (d.size - (k + (k2 + 1)))
                case measure => omega
                case rel => exact ⟨kk + 1, k2 + 1, dk.setIfInBounds kk u, by go_num, by go_num, by omega, by omega, Nat.le_refl _, ⟨by have := SW_set (W2.out.drewN nq) HL.out kk (by omega) u; rwa [Nat.zero_add] at this⟩, ⟨by have := I2.out.keep hlt2 (by rw [C.out.1, C.out.2]; exact HU.out); rwa [C.out.1] at this⟩⟩
            · have hend : k + k2 = d.size := by omega
              have hcl : ∀ ty, (Builtin.clear_ #[28] ty #[.slice (some ⟨b, kk, none⟩) (d.size - kk) (cap - kk)]).run Try.prog wr = .ok (.tuple #[]) (wr.setCells b kk (List.replicate (d.size - kk) (default : El W0 ok).v)) :=
                fun ty => Lib.run_clear_slice wr _ _ ty _ Try.underlying28 Try.zeroValue40 rfl rfl b kk _ _ (by omega) (fun j hj => by have := (hHk (kk + j) (by omega)).1; rw [Nat.zero_add] at this; rw [this]; rfl) (fun j hj => by have := (hHk (kk + j) (by omega)).2; rw [Nat.zero_add] at this; exact this)
              clear hHk
              have i1 : ¬ (k2 : Int) < ((d.size - k : Nat) : Int) := by omega
              have i2 : kk < cap := by omega
              go_wp2
              go_ret
              obtain ⟨dk', hs', ht', n', os', hw'⟩ := SW_clear W2.out HL.out kk (List.replicate (d.size - kk) default) (by rw [List.length_replicate]; omega)
              rw [Nat.zero_add, List.map_replicate] at hw'
              have hI := I2.out
              rw [hend] at hI
              refine ⟨kk, rfl, dk', by omega, by omega, ?_, ?_, n', os', hw'⟩
              · (try rw [← List.map_take]); rw [ht', hI.low, List.take_of_length_le (by simp)]
              · rw [ht']; have := hI.sub; rwa [List.take_of_length_le (l := d.toList) (by simp)] at this
        · have HD := aM hdup
          clear hdup
          have i1 : IntKind.i64.wrap ((k : Int) - 1) = (k : Int) - 1 := IntWalk.i64_in _ (by omega)
          have i2 : (1 : Int) ≤ (k : Int) := by omega
          have i3 : ((k : Int) - 1).toNat = k - 1 := by omega
          have i4 : (k : Int) - 1 < (d.size : Int) := by omega
          have i5 : (0 : Int) ≤ (k : Int) - 1 := by omega
          go_wp2_with fail
          go_quiet ((exact quietAt (v := .bool false) ((HE.out _ d ((SW.start HH.out).drewN (q + _)) x y).mono fun _ _ hh => ⟨by rw [hh.1, decide_eq_false HD.out], hh.2⟩)))
          go_wp2
          go_roundg (d.size - (k + 1))
          case measure => omega
          case rel => exact ⟨k + 1, q + nq, by omega, by omega, Nat.le_refl _, by go_num, rfl, A.out.step (by omega) hlt (by rw [B.out.1, B.out.2]; exact HD.out)⟩
      · obtain rfl : k = d.size := by omega
        have A := aM hall
        clear hall
        go_wp2
        go_ret
        obtain ⟨n', os', hw'⟩ := (SW.start HH.out).drewN q
        refine ⟨d.size, d, n', os', rfl, Nat.le_refl _, rfl, ?_, by rw [List.take_of_length_le (by simp)]; exact List.Sublist.refl _, hw'⟩
        have := A.out.2
        rw [List.take_of_length_le (by rw [HK.out]; omega)] at this
        rw [List.take_of_length_le (by simp), this]
theorem impl_Cube_42__impl_allSolids_1.raw {W0 w : World} {ok : Nat → Prop} {base b cap : Nat} (d : Array (El W0 ok)) (hA : At w base b cap d) (hS : Same W0 w ok) (hg : ¬ ok b) (h0 : 0 < d.size) (hsz : d.size < 4611686018427387904) :
    Calls Try.prog 42 #[.slice (some ⟨b, 0, none⟩) d.size cap, .func (.func 43) #[] #[]] w fun e w' => ∃ (q : Nat) (dk : Array (El W0 ok)) (n : Nat) (os : Array Obj), e = .returned (.slice (some ⟨b, 0, none⟩) q cap) ∧ q ≤ dk.size ∧ dk.size = d.size ∧ (dk.toList.take q).map El.l = compF (d.toList.map El.l) ∧ (dk.toList.take q).Sublist d.toList ∧ w' = sortWorld El.v w b 0 n dk os :=
  impl_Cube_42__impl_allSolids_1.rawE d hA hS hg h0 hsz fun W dk hW x y => by
    obtain ⟨n, os, rfl⟩ := hW
    have hgw := sortW1_grown El.v w b n dk os
    obtain ⟨A0, c0, e0, hc0, hC0⟩ := x.now (hS.grown hgw hg)
    obtain ⟨A1, c1, e1, hc1, hC1⟩ := y.now (hS.grown hgw hg)
    obtain ⟨k, hk⟩ := equal_rounds x.l y.l hC0.2.1
    rw [e0, e1]
    exact (impl_allSolids_1.calls k A0 c0 x.l A1 c1 y.l _ _ hC0 hc0 hC1 hc1 hk).mono fun _ _ hh => ⟨hh.1, hh.2.out⟩
def impl_Cube_42__impl_allSolids_1.f (l0 : List (List S43)) : Option (List (List S43)) := if 0 < l0.length ∧ l0.length < 4611686018427387904 then some (compF l0) else none
theorem impl_Cube_42__impl_allSolids_1.callsO (b_ : Nat) (P0_ : Nat → Prop) (u9000_ : Value) (l0 : List (List S43)) (r : List (List S43)) (w0 w : World) (hB : Below w0.heap.size w0 w) (ho0 : Kd.N (own b_ 43 k43) 40 w w0.heap.size P0_ u9000_ l0) (h : impl_Cube_42__impl_allSolids_1.f l0 = some r) :
    Calls Try.prog 42 #[u9000_, .func (.func 43) #[] #[]] w fun e w' => ∃ v0_ : Value, e = .returned (v0_) ∧ Kd.N (own b_ 43 k43) 40 w' w0.heap.size (fun k_ => (P0_ k_ ∨ w.heap.size ≤ k_)) v0_ r ∧ Below w0.heap.size w0 w' ∧ Kept w w' (fun k_ => some k_ = u9000_.ownBlock) ∧ v0_.ownBlock = u9000_.ownBlock := by
  unfold impl_Cube_42__impl_allSolids_1.f at h
  by_cases hl : 0 < l0.length ∧ l0.length < 4611686018427387904
  · rw [if_pos hl] at h
    obtain rfl := Option.some.inj h
    obtain ⟨g, cap, rfl, _⟩ := Kd.N_form ho0 hl.1
    obtain ⟨hok, hn, d, hd, hA, hO⟩ := N_openO ho0
    have hdn : d.size = l0.length := by rw [← hd]; simp
    have hcon := impl_Cube_42__impl_allSolids_1.raw d hA (Same.refl _ _) (fun h_ => h_.2 rfl) (by omega) (by omega)
    rw [hdn] at hcon
    refine hcon.mono ?_
    rintro e w' ⟨q, dk, n, os, rfl, hq, hs2, hl2, hsub, rfl⟩
    have hgw := sortW1_grown El.v w g n dk os
    have hA2 := (hA.sorted (n := n) (os := os) (hs2.trans hdn.symm)).cut q hq
    have hz : (dk.toList.take q).toArray.size = q := by simp; omega
    refine ⟨_, rfl, ?_, pw_below_grown hB (some g) hB.size hgw (fun k hk => by injection hk with hk; exact hk ▸ hA.base), ⟨hgw.size, fun i hi hn => hgw.block i hi (fun e => hn (by injection e with e; exact e ▸ rfl))⟩, rfl⟩
    have h2 := N_closeO hok hA2 ((Same.refl _ _).grown hgw (fun h_ => h_.2 rfl)) (fun x hx => hO x (hsub.mem (by simpa using hx)))
    have e : (dk.toList.take q).toArray.toList.map El.l = compF l0 := by rw [← hd]; exact hl2
    rw [hz, e] at h2
    exact Kd.N_mono h2 (fun _ hk => .inl hk)
  · rw [if_neg hl] at h
    exact absurd h (by simp)
end Go.Proofs.Ytlompfboheiliaa.F
end
section
namespace Go.Proofs.Ytlompfboheiliaa.F
open Go.RowKit Go.Proofs.YtlompfboheiliaaW.PrintWords Go.Proofs.YtlompfboheiliaaW.PrintLast Go.Proofs.YtlompfboheiliaaW.PrintMore
attribute [local go_sem] max2_int min2_int max_two min_two max_three min_three max_four min_four
set_option linter.unusedVariables false
set_option linter.unusedSimpArgs false
mutual
def impl_allSolids.l0 : Nat → List (List (S43)) → Int → Int → Option ((List (List (S43))))
 | 0, _, _, _ => none
 | k + 1, x3, x16, x17 => if x17 < x16 then (impl_allSolids.l1 k (([] : List (List (S43)))) x16 x17 x3 (x3.length : Int) 0) else (some x3)
def impl_allSolids.l1 : Nat → List (List (S43)) → Int → Int → List (List (S43)) → Int → Int → Option ((List (List (S43))))
 | 0, _, _, _, _, _, _ => none
 | k + 1, x4, x16, x17, x20, x21, x22 => if x22 < x21 then (if 0 ≤ x22 then (if x22 < (x20.length : Int) then (impl_allSolids.l2 k x4 (rd_L2 x20 x22) x16 x17 x20 x21 x22 (rd_L2 x20 x22) ((rd_L2 x20 x22).length : Int) 0) else (none)) else (none)) else ((impl_Cube_40__impl_compareSolids.f x4).bind fun t389 => ((impl_Cube_42__impl_allSolids_1.f t389).bind fun t390 => (impl_allSolids.l0 k t390 x16 (wrap64 (x17 + 1)))))
def impl_allSolids.l2 : Nat → List (List (S43)) → List (S43) → Int → Int → List (List (S43)) → Int → Int → List (S43) → Int → Int → Option ((List (List (S43))))
 | 0, _, _, _, _, _, _, _, _, _, _ => none
 | k + 1, x4, x6, x16, x17, x20, x21, x22, x26, x27, x28 => if x28 < x27 then (if 0 ≤ x28 then (if x28 < (x26.length : Int) then ((impl_cubesAround.f ((rd_T43 x26 x28).f0) ((rd_T43 x26 x28).f1) ((rd_T43 x26 x28).f2)).bind fun t396 => (impl_allSolids.l3 k x4 x6 x16 x17 x20 x21 x22 x26 x27 x28 t396 (t396.length : Int) 0)) else (none)) else (none)) else (impl_allSolids.l1 k x4 x16 x17 x20 x21 (wrap64 (x22 + 1)))
def impl_allSolids.l3 : Nat → List (List (S43)) → List (S43) → Int → Int → List (List (S43)) → Int → Int → List (S43) → Int → Int → List (S43) → Int → Int → Option ((List (List (S43))))
 | 0, _, _, _, _, _, _, _, _, _, _, _, _, _ => none
 | k + 1, x4, x6, x16, x17, x20, x21, x22, x26, x27, x28, x33, x34, x35 => if x35 < x34 then (if 0 ≤ x35 then (if x35 < (x33.length : Int) then ((impl_Cube_35.f k x6 ((rd_T43 x33 x35).f0) ((rd_T43 x33 x35).f1) ((rd_T43 x33 x35).f2)).bind fun t401 => (if t401 = true then (impl_allSolids.l3 k x4 x6 x16 x17 x20 x21 x22 x26 x27 x28 x33 x34 (wrap64 (x35 + 1))) else ((impl_Cube_36.f x6).bind fun t402 => ((some (([(⟨(rd_T43 x33 x35).f0, (rd_T43 x33 x35).f1, (rd_T43 x33 x35).f2⟩ : S43)] : List (S43)) : List (S43))).bind fun y405 => (if t402.length + y405.length < 5864062014805 then ((impl_Cube_37__impl_compareCubes.f (t402 ++ y405)).bind fun t411 => ((impl_normalCubes.f k t411).bind fun t412 => ((some (([t412] : List (List (S43))) : List (List (S43)))).bind fun y415 => (if x4.length + y415.length < 5864062014805 then (impl_allSolids.l3 k (x4 ++ y415) x6 x16 x17 x20 x21 x22 x26 x27 x28 x33 x34 (wrap64 (x35 + 1))) else (none))))) else (none)))))) else (none)) else (none)) else (impl_allSolids.l2 k x4 x6 x16 x17 x20 x21 x22 x26 x27 (wrap64 (x28 + 1)))
end
def impl_allSolids.f (k : Nat) (a0 : Int) : Option ((List (List (S43)))) := impl_allSolids.l0 k (([(([(⟨0, 0, 0⟩ : S43)] : List (S43)))] : List (List (S43)))) (wrap64 (a0 - 1)) 0
theorem impl_allSolids.calls (k : Nat) (a0 : Int) (r : List (List (S43))) (w : World) (h : impl_allSolids.f k a0 = some r) :
  Calls Try.prog 19 #[.int .i64 a0] w fun e w' => ∃ v0_ : Value, e = .returned (v0_) ∧ Kd.V (own w.heap.size 43 k43) 40 w' w.heap.size (fun k_ => (w.heap.size ≤ k_)) v0_ r ∧ Below w.heap.size w w' := by
 have hu43 := Try.underlying43
 have HB := aM (Below.refl w.heap.size w)
 have H : (impl_allSolids.l0 k (([(([(⟨0, 0, 0⟩ : S43)] : List (S43)))] : List (List (S43)))) (wrap64 (a0 - 1)) 0) = some r := h
 clear h
 obtain ⟨y380, hy380⟩ : ∃ y_ : List (S43), y_ = (([(⟨0, 0, 0⟩ : S43)] : List (S43))) := ⟨_, rfl⟩
 replace H : (impl_allSolids.l0 k (([y380] : List (List (S43)))) (wrap64 (a0 - 1)) 0) = some r := zy H hy380
 have Ny380 := aM hy380
 clear hy380
 obtain ⟨y383, hy383⟩ : ∃ y_ : List (List (S43)), y_ = (([y380] : List (List (S43)))) := ⟨_, rfl⟩
 replace H : (impl_allSolids.l0 k y383 (wrap64 (a0 - 1)) 0) = some r := zy H hy383
 have Ny383 := aM hy383
 clear hy383
 have H' := aM H
 clear H
 go_enter Try.func19, Try.ntmps19
 go_wp2_with (first | ((with_reducible refine gate_dst (N := 13) rfl ?_); refine Kd.R_lit k43 _ 43 ?hg (N := 13) ?hd (xs := ([(⟨0, 0, 0⟩ : S43)] : List (S43))) (inner := [.int .i64 0, .int .i64 0, .int .i64 0]) (ok := fun _ => True) (okp := fun _ => True) ?hr ?hp (fun _ hk => hk) trivial (Below.refl _ _) (Nat.le_refl _) (by simp) ?_; (case hd => rfl); (case hg => rfl); (case hr => first | (go_simp; done) | (go_simp; rfl)); (case hp => exact (Reps.c3 (show Kd.M k43 _ _ _ (⟨0, 0, 0⟩ : S43) [.int .i64 0, .int .i64 0, .int .i64 0] from (k43_mkM _ _ _ (⟨0, 0, 0⟩ : S43) )) (Reps.none _ _))); intro v381 w2 ho3 hb hg_ hnew_; clear hg_ hnew_; (first | rw [← Ny380.out] at ho3 | (simp only [Int.reduceToNat] at ho3; rw [← Ny380.out] at ho3)); have n0_ := aM (Kd.R_lower (Kd.R_newM (M := fun k_ => (w.heap.size ≤ k_)) ho3 (below_size zb) (fun k_ h_ => h_)) (below_size zb)); have n1_ := aM (below_step zb hb); clear HB; have HO382 := n0_; have HB := n1_; clear n0_ n1_ hb ho3; obtain ⟨Ao4, co4, eo4⟩ := Kd.R_slice HO382.out; subst eo4) | ((with_reducible refine gate_dst (N := 14) rfl ?_); refine Kd.N_lit (own w.heap.size 43 k43) _ 40 ?hg (N' := 14) ?hd (xs := ([y380] : List (List (S43)))) (inner := [.slice Ao4 y380.length co4]) (ok := (fun k_ => (w.heap.size ≤ k_))) (okp := (fun k_ => (w.heap.size ≤ k_))) ?hr ?hp (fun _ hk => hk) ((show ∀ k_, w2.heap.size ≤ k_ → (fun k_ => (w.heap.size ≤ k_)) k_ from fun k_ hk => (Nat.le_trans (below_size zb) hk)) _ (Nat.le_refl _)) (Below.refl _ _) (Nat.le_refl _) (by simp) ?_; (case hd => rfl); (case hg => rfl); (case hr => first | (go_simp; done) | (go_simp; rfl)); (case hp => exact (Reps.one (show Kd.FK (own w.heap.size 43 k43) _ _ y380 [.slice Ao4 y380.length co4] from (FKO_R rfl (Kd.R_mono (ok' := (fun k_ => (w.heap.size ≤ k_))) (HO382.out) (fun k_ hk => hk.1)) (Nat.le_refl _))) (Reps.none _ _))); intro v384 w5 ho6 hb hg_ hnew_; clear hg_ hnew_; (first | rw [← Ny383.out] at ho6 | (simp only [Int.reduceToNat] at ho6; rw [← Ny383.out] at ho6)); have n0_ := aM (Kd.N_lower ho6 (below_size zb)); have n1_ := aM (below_step zb hb); clear HB HO382; have HO385 := n0_; have HB := n1_; clear n0_ n1_; clear hb ho6))
 go_loopg [3, 17] k (fun kq v3 v17 w' => ∃ (x3_1 : List (List (S43))) (x17_1 : Int), v17 = .int .i64 x17_1 ∧ Aside0 (impl_allSolids.l0 kq x3_1 (wrap64 (a0 - 1)) x17_1 = some r) ∧ Aside0 (kq ≤ k) ∧ Aside0 (Kd.N (own w.heap.size 43 k43) 40 w' w.heap.size (fun k_ => (w.heap.size ≤ k_)) v3 x3_1) ∧ Aside0 (Below w.heap.size w w'))
 case atStart => exact ⟨(y383), (0), zr, H', ⟨Nat.le_refl _⟩, ⟨mN_ HO385.out⟩, ⟨zb⟩⟩
 case round =>
  clear H'
  try clear c1
  try clear p2
  try clear c3
  try clear p6
  obtain ⟨x3_1, x17_1, rfl, HA, HK1, HO_3, HB⟩ := hrel
  cases gk with
  | zero => exact absurd HA.out (by simp [impl_allSolids.l0])
  | succ k1 =>
   have H := HA.out
   clear HA
   simp only [impl_allSolids.l0] at H
   by_cases c7 : x17_1 < (wrap64 (a0 - 1))
   rotate_left
   ·rw [if_neg c7] at H
    have c7b0 : decide (x17_1 < (wrap64 (a0 - 1))) = false := decide_eq_false c7
    clear c7
    obtain rfl := Option.some.inj H
    go_wp2
    go_ret
    exact ⟨_, zw, Kd.N_V (mN_ HO_3.out), zb⟩
   rw [if_pos c7] at H
   have c7b0 : decide (x17_1 < (wrap64 (a0 - 1))) = true := decide_eq_true c7
   clear c7
   obtain ⟨y386, hy386⟩ : ∃ y_ : List (List (S43)), y_ = (([] : List (List (S43)))) := ⟨_, rfl⟩
   replace H : (impl_allSolids.l1 k1 y386 (wrap64 (a0 - 1)) x17_1 x3_1 (x3_1.length : Int) 0) = some r := zy H hy386
   have Ny386 := aM hy386
   clear hy386
   have H' := aM H
   clear H
   go_wp2_with (first | ((with_reducible refine gate_dst (N := 19) rfl ?_); refine Kd.N_lit (own w.heap.size 43 k43) _ 40 ?hg (N' := 19) ?hd (xs := ([] : List (List (S43)))) (inner := []) (ok := (fun k_ => (w.heap.size ≤ k_) ∧ some k_ ≠ (u3 : Value).ownBlock)) (okp := (fun k_ => (w.heap.size ≤ k_) ∧ some k_ ≠ (u3 : Value).ownBlock)) ?hr ?hp (fun _ hk => hk) ((show ∀ k_, wr.heap.size ≤ k_ → (fun k_ => (w.heap.size ≤ k_) ∧ some k_ ≠ (u3 : Value).ownBlock) k_ from fun k_ hk => ⟨(Nat.le_trans (below_size zb) hk), Kd.fresh' (Kd.N_lt (mN_ HO_3.out)) k_ hk⟩) _ (Nat.le_refl _)) (Below.refl _ _) (Nat.le_refl _) (by simp) ?_; (case hd => rfl); (case hg => rfl); (case hr => first | (go_simp; done) | (go_simp; rfl)); (case hp => exact (Reps.none _ _)); intro v387 w8 ho9 hb hg_ hnew_; clear hg_ hnew_; (first | rw [← Ny386.out] at ho9 | (simp only [Int.reduceToNat] at ho9; rw [← Ny386.out] at ho9)); have n0_ := aM (Kd.N_elder' (mN_ HO_3.out) (by first | exact Kd.N_base ho9 | exact Kd.S_base ho9 | exact Kd.R_base ho9) hb); have n1_ := aM (Kd.N_lower ho9 (below_size zb)); have n2_ := aM (below_step zb hb); clear HO_3 HB; have HO_3 := n0_; have HO388 := n1_; have HB := n2_; clear n0_ n1_ n2_ hb ho9; obtain ⟨Ao10, co10, eo10⟩ := Kd.N_slice HO_3.out; subst eo10))
   go_loopg [4, 22] k1 (fun kq v4 v22 w' => ∃ (x4_2 : List (List (S43))) (x22_2 : Int), v22 = .int .i64 x22_2 ∧ Aside0 (impl_allSolids.l1 kq x4_2 (wrap64 (a0 - 1)) x17_1 x3_1 (x3_1.length : Int) x22_2 = some r) ∧ Aside0 (kq ≤ k1) ∧ Aside0 (Kd.N (own w.heap.size 43 k43) 40 w' w.heap.size (fun k_ => (w.heap.size ≤ k_) ∧ some k_ ≠ ((.slice Ao10 x3_1.length co10) : Value).ownBlock) v4 x4_2) ∧ Aside0 (Kd.N (own w.heap.size 43 k43) 40 w' w.heap.size (fun k_ => (w.heap.size ≤ k_) ∧ some k_ ≠ (v4 : Value).ownBlock) (.slice Ao10 x3_1.length co10) x3_1) ∧ Aside0 (Below w.heap.size w w'))
   case atStart => exact ⟨(y386), (0), zr, H', ⟨Nat.le_refl _⟩, ⟨mN_ HO388.out⟩, ⟨mN_ HO_3.out⟩, ⟨zb⟩⟩
   case round =>
    clear H'
    try clear c1
    try clear p2
    try clear c3
    try clear p6
    try clear c7
    try clear c7b0
    try clear p2
    try clear p6
    obtain ⟨x4_2, x22_2, rfl, HA, HK2, HO_4, HO_20, HB⟩ := hrel
    cases gk with
    | zero => exact absurd HA.out (by simp [impl_allSolids.l1])
    | succ k2 =>
     have H := HA.out
     clear HA
     simp only [impl_allSolids.l1] at H
     by_cases c11 : x22_2 < (x3_1.length : Int)
     rotate_left
     ·rw [if_neg c11] at H
      have c11b0 : decide (x22_2 < (x3_1.length : Int)) = false := decide_eq_false c11
      clear c11
      replace H := Option.bind_eq_some_iff.mp H
      obtain ⟨t389, A550, H⟩ := H
      replace H : ((impl_Cube_42__impl_allSolids_1.f t389).bind fun t390 => (impl_allSolids.l0 k2 t390 (wrap64 (a0 - 1)) (wrap64 (x17_1 + 1)))) = some r := H
      have A55 := aM A550
      clear A550
      replace H := Option.bind_eq_some_iff.mp H
      obtain ⟨t390, A560, H⟩ := H
      replace H : (impl_allSolids.l0 k2 t390 (wrap64 (a0 - 1)) (wrap64 (x17_1 + 1))) = some r := H
      have A56 := aM A560
      clear A560
      have H' := aM H
      clear H
      obtain ⟨Ao57, co57, eo57⟩ := Kd.N_slice HO_4.out
      subst eo57
      go_wp2_with (first | ((with_reducible refine gate_callee (f := 40) rfl ?_); refine goesL_ (some 58) rfl rfl Try.func40 (by kernel_rfl) rfl #[.slice Ao57 x4_2.length co57, .func (.func 41) #[] #[]] rfl zm ?_; (with_reducible refine (impl_Cube_40__impl_compareSolids.callsO w.heap.size (fun k_ => ((w.heap.size ≤ k_) ∧ some k_ ≠ (.slice Ao10 x3_1.length co10 : Value).ownBlock)) (.slice Ao57 x4_2.length co57) x4_2  t389 w _ ?side1 ?side2 A55.out).mono ?_); (case side1 => repeat (first | (with_reducible first | exact HB.out | apply below_alloc | apply pw_below_drewN | apply below_drew1) | exact HB.out)); (case side2 => exact HO_4.out); rintro e w58 ⟨rfl, hy0, hb, hkp, hob⟩; refine ⟨_, rfl, ?_⟩; have n0_ := aM (hy0); have n1_ := aM (Kd.N_mono (ok' := fun k_ => (w.heap.size ≤ k_) ∧ some k_ ≠ (.slice Ao57 x4_2.length co57 : Value).ownBlock) (Kd.N_keptB (HO_20.out) hkp (fun k_ hk_ hs_ => (hk_.2) hs_)) (fun k_ hk_ => ⟨hk_.1.1, hk_.1.2⟩)); have n2_ := aM (hb); clear HO_4 HO_20 HB; have HO_4 := n0_; have HO_20 := n1_; have HB := n2_; clear n0_ n1_ n2_; (try clear hb); (try clear hkp); (try clear hob); (try clear hy0)) | ((with_reducible refine gate_callee (f := 42) rfl ?_); refine goesL_ (some 60) rfl rfl Try.func42 (by kernel_rfl) rfl #[.slice Ao57 x4_2.length co57, .func (.func 43) #[] #[]] rfl zm ?_; (with_reducible refine (impl_Cube_42__impl_allSolids_1.callsO w.heap.size (fun k_ => ((w.heap.size ≤ k_) ∧ some k_ ≠ (.slice Ao10 x3_1.length co10 : Value).ownBlock)) (.slice Ao57 x4_2.length co57) t389  t390 w _ ?side1 ?side2 A56.out).mono ?_); (case side1 => repeat (first | (with_reducible first | exact HB.out | apply below_alloc | apply pw_below_drewN | apply below_drew1) | exact HB.out)); (case side2 => exact HO_4.out); rintro e w59 ⟨v391, rfl, ho0, hb, hkp, hob⟩; refine ⟨_, rfl, ?_⟩; have n0_ := aM (Kd.N_mono (ok' := fun k_ => (w.heap.size ≤ k_) ∧ some k_ ≠ (v391 : Value).ownBlock) (Kd.N_keptB (HO_20.out) hkp (fun k_ hk_ hs_ => (hk_.2) hs_)) (fun k_ hk_ => ⟨hk_.1.1, fun e_ => hk_.2.1 (e_.trans hob)⟩)); have n1_ := aM (Kd.N_lower (Kd.N_mono (ok' := fun k_ => (w.heap.size ≤ k_) ∧ some k_ ≠ (.slice Ao10 x3_1.length co10 : Value).ownBlock) ho0 (fun k_ hk_ => ⟨Or.elim hk_ (fun hs_ => hs_.1) (fun hn_ => (Nat.le_trans (below_size zb) hn_)), Or.elim hk_ (fun hs_ => hs_.2) (fun hn_ => (Kd.fresh' (Kd.N_lt (mN_ HO_20.out)) k_ hn_))⟩)) (Nat.le_refl _)); have n2_ := aM (hb); clear HO_20 HB HO_4; have HO_20 := n0_; have HO392 := n1_; have HB := n2_; clear n0_ n1_ n2_; (try clear hb); (try clear hkp); (try clear hob); (try clear ho0)))
      go_roundg k2
      case measure => have := HK1.out; have := HK2.out; omega
      case rel => exact ⟨(t390), (wrap64 (x17_1 + 1)), zr, H', ⟨by have := HK1.out; have := HK2.out; omega⟩, ⟨zd4 HO392.out⟩, ⟨zb⟩⟩
     rw [if_pos c11] at H
     have c11b0 : decide (x22_2 < (x3_1.length : Int)) = true := decide_eq_true c11
     clear c11
     by_cases c12 : 0 ≤ x22_2
     rotate_left
     ·rw [if_neg c12] at H
      exact absurd H (by simp)
     rw [if_pos c12] at H
     have c12b0 : decide (0 ≤ x22_2) = true := decide_eq_true c12
     clear c12
     by_cases c13 : x22_2 < (x3_1.length : Int)
     rotate_left
     ·rw [if_neg c13] at H
      exact absurd H (by simp)
     rw [if_pos c13] at H
     have c13b0 : decide (x22_2 < (x3_1.length : Int)) = true := decide_eq_true c13
     clear c13
     have H' := aM H
     clear H
     have p393 : 0 ≤ (x22_2 : Int) := of_decide_eq_true za
     have q393 : x22_2 < (x3_1.length : Int) := of_decide_eq_true za
     obtain ⟨ad393, A393_0, c393_0, e393, hx393_0, hl393_0, hi393_0⟩ := at_L2 (Kd.N_reads' (NO_slice HO_20.out)).2.2 x22_2 p393 q393
     cases e393
     obtain ⟨ce393, hce393, hMe393, hcc393⟩ := Kd.N_get HO_20.out [] x22_2 p393 (by first | exact q393 | exact of_decide_eq_true za | (have e_ := (Kd.N_reads' HO_20.out).1; omega))
     obtain ⟨ua393_0, uc393_0, rfl, ul393_0, ge393_0⟩ := Kd.FK_slice_open (FKO_slice hMe393)
     have hv393_0 := hcc393 0 _ rfl
     rw [Nat.add_zero, show ((own w.heap.size 43 k43)).sz = 1 from rfl, Nat.mul_one] at hv393_0
     replace hv393_0 := Option.some.inj (hv393_0.symm.trans hx393_0)
     injection hv393_0 with hva_ hvn_ hvc_
     rw [hva_] at ge393_0
     rw [hvc_] at ul393_0
     have HL393_0 := aM (show Kd.V k43 43 _ w.heap.size _ _ (rd_L2 x3_1 x22_2) from Kd.V_mk ul393_0 ge393_0)
     clear hva_ hvn_ hvc_ ge393_0 ul393_0
     clear hcc393 hce393
     have HR393_0 := aM hi393_0
     have HC393_0 := aM hl393_0
     clear hi393_0 hl393_0
     replace p393 := eq_true p393
     replace q393 := eq_true q393
     go_wp2
     go_loopg [4, 28] k2 (fun kq v4 v28 w' => ∃ (x4_3 : List (List (S43))) (x28_3 : Int), v28 = .int .i64 x28_3 ∧ Aside0 (impl_allSolids.l2 kq x4_3 (rd_L2 x3_1 x22_2) (wrap64 (a0 - 1)) x17_1 x3_1 (x3_1.length : Int) x22_2 (rd_L2 x3_1 x22_2) ((rd_L2 x3_1 x22_2).length : Int) x28_3 = some r) ∧ Aside0 (kq ≤ k2) ∧ Aside0 (Kd.N (own w.heap.size 43 k43) 40 w' w.heap.size (fun k_ => (w.heap.size ≤ k_) ∧ some k_ ≠ ((.slice (some ad393) x3_1.length co10) : Value).ownBlock) v4 x4_3) ∧ Aside0 (Kd.V k43 43 w' w.heap.size (fun k_ => (w.heap.size ≤ k_) ∧ some k_ ≠ (v4 : Value).ownBlock ∧ some k_ ≠ ((.slice (some ad393) x3_1.length co10) : Value).ownBlock) (.slice A393_0 (rd_L2 x3_1 x22_2).length c393_0) (rd_L2 x3_1 x22_2)) ∧ Aside0 (Kd.N (own w.heap.size 43 k43) 40 w' w.heap.size (fun k_ => (w.heap.size ≤ k_) ∧ some k_ ≠ (v4 : Value).ownBlock) (.slice (some ad393) x3_1.length co10) x3_1) ∧ Aside0 (Kd.V k43 43 w' w.heap.size (fun k_ => (w.heap.size ≤ k_) ∧ some k_ ≠ (v4 : Value).ownBlock ∧ some k_ ≠ ((.slice (some ad393) x3_1.length co10) : Value).ownBlock) (.slice A393_0 (rd_L2 x3_1 x22_2).length c393_0) (rd_L2 x3_1 x22_2)) ∧ Aside0 (Below w.heap.size w w'))
     case atStart => exact ⟨(x4_2), (0), zr, H', ⟨Nat.le_refl _⟩, ⟨mN_ HO_4.out⟩, ⟨zd0 HL393_0.out⟩, ⟨mN_ HO_20.out⟩, ⟨zd0 HL393_0.out⟩, ⟨zb⟩⟩
     case round =>
      clear H'
      try clear c1
      try clear p2
      try clear c3
      try clear p3
      try clear q3
      try clear hx3
      try clear p6
      try clear c7
      try clear c7b0
      try clear c11
      try clear c11b0
      try clear c12
      try clear c12b0
      try clear c13
      try clear c13b0
      try clear hx393_0
      try clear p2
      try clear p393
      try clear p6
      try clear q393
      obtain ⟨x4_3, x28_3, rfl, HA, HK3, HO_4, HO_6, HO_20, HO_26, HB⟩ := hrel
      cases gk with
      | zero => exact absurd HA.out (by simp [impl_allSolids.l2])
      | succ k3 =>
       have H := HA.out
       clear HA
       simp only [impl_allSolids.l2] at H
       by_cases c14 : x28_3 < ((rd_L2 x3_1 x22_2).length : Int)
       rotate_left
       ·rw [if_neg c14] at H
        have c14b0 : decide (x28_3 < ((rd_L2 x3_1 x22_2).length : Int)) = false := decide_eq_false c14
        clear c14
        have H' := aM H
        clear H
        go_wp2
        go_roundg k3
        case measure => have := HK1.out; have := HK2.out; have := HK3.out; omega
        case rel => exact ⟨(x4_3), (wrap64 (x22_2 + 1)), zr, H', ⟨by have := HK1.out; have := HK2.out; have := HK3.out; omega⟩, ⟨mN_ HO_4.out⟩, ⟨mN_ HO_20.out⟩, ⟨zb⟩⟩
       rw [if_pos c14] at H
       have c14b0 : decide (x28_3 < ((rd_L2 x3_1 x22_2).length : Int)) = true := decide_eq_true c14
       clear c14
       by_cases c15 : 0 ≤ x28_3
       rotate_left
       ·rw [if_neg c15] at H
        exact absurd H (by simp)
       rw [if_pos c15] at H
       have c15b0 : decide (0 ≤ x28_3) = true := decide_eq_true c15
       clear c15
       by_cases c16 : x28_3 < ((rd_L2 x3_1 x22_2).length : Int)
       rotate_left
       ·rw [if_neg c16] at H
        exact absurd H (by simp)
       rw [if_pos c16] at H
       have c16b0 : decide (x28_3 < ((rd_L2 x3_1 x22_2).length : Int)) = true := decide_eq_true c16
       clear c16
       replace H := Option.bind_eq_some_iff.mp H
       obtain ⟨t396, A170, H⟩ := H
       replace H : (impl_allSolids.l3 k3 x4_3 (rd_L2 x3_1 x22_2) (wrap64 (a0 - 1)) x17_1 x3_1 (x3_1.length : Int) x22_2 (rd_L2 x3_1 x22_2) ((rd_L2 x3_1 x22_2).length : Int) x28_3 t396 (t396.length : Int) 0) = some r := H
       have A17 := aM A170
       clear A170
       have H' := aM H
       clear H
       have p394 : 0 ≤ (x28_3 : Int) := of_decide_eq_true za
       have q394 : x28_3 < ((rd_L2 x3_1 x22_2).length : Int) := of_decide_eq_true za
       obtain ⟨ad394, e394, hx394_0, hx394_1, hx394_2⟩ := at_T43 (Kd.V_reads' HO_26.out).2.2 x28_3 p394 q394
       cases e394
       replace p394 := eq_true p394
       replace q394 := eq_true q394
       go_wp2_with (first | ((with_reducible refine gate_dst (N := 8) rfl ?_); refine zx 8 #[.int .i64 0, .int .i64 0, .int .i64 0] 43 ?_; intro gb395 hg w18 hbox hb; have n0_ := aM (Kd.N_below (Kd.N_elderB (mN_ HO_4.out) gb395 (Nat.le_of_eq hg.symm)) hb); have n1_ := aM (Kd.V_below (Kd.V_elderB (mV_ HO_6.out) gb395 (Nat.le_of_eq hg.symm)) hb); have n2_ := aM (Kd.N_below (Kd.N_elderB (mN_ HO_20.out) gb395 (Nat.le_of_eq hg.symm)) hb); have n3_ := aM (Kd.V_below (Kd.V_elderB (mV_ HO_26.out) gb395 (Nat.le_of_eq hg.symm)) hb); have n4_ := aM (below_step zb hb); have n5_ := aM (hbox); have n6_ := aM ((ze : w.heap.size ≤ gb395)); have n7_ := aM ((ze : w.heap.size ≤ gb395)); clear HO_4 HO_6 HO_20 HO_26 HB; have HO_4 := n0_; have HO_6 := n1_; have HO_20 := n2_; have HO_26 := n3_; have HB := n4_; have BK395 := n5_; have GW395 := n6_; have GE395 := n7_; clear n0_ n1_ n2_ n3_ n4_ n5_ n6_ n7_ hb hbox hg; have hcz19_0 : w18.cell? ⟨gb395, 0, none⟩ = some (.int .i64 0) := (blk_cell BK395.out 0).trans rfl; have hcz19_1 : w18.cell? ⟨gb395, 1, none⟩ = some (.int .i64 0) := (blk_cell BK395.out 1).trans rfl; have hcz19_2 : w18.cell? ⟨gb395, 2, none⟩ = some (.int .i64 0) := (blk_cell BK395.out 2).trans rfl; have hfz19_0 := blk_frozen BK395.out 0; have hfz19_1 := blk_frozen BK395.out 1; have hfz19_2 := blk_frozen BK395.out 2) | ((with_reducible refine gate_callee (f := 34) rfl ?_); refine goesL_ (some 33) rfl rfl Try.func34 (by kernel_rfl) rfl #[.agg #[.int .i64 ((rd_T43 (rd_L2 x3_1 x22_2) x28_3).f0), .int .i64 ((rd_T43 (rd_L2 x3_1 x22_2) x28_3).f1), .int .i64 ((rd_T43 (rd_L2 x3_1 x22_2) x28_3).f2)]] rfl zm ?_; (with_reducible refine (impl_cubesAround.calls ((rd_T43 (rd_L2 x3_1 x22_2) x28_3).f0) ((rd_T43 (rd_L2 x3_1 x22_2) x28_3).f1) ((rd_T43 (rd_L2 x3_1 x22_2) x28_3).f2) t396 _ A17.out).mono ?_); rintro e w20 ⟨v397, rfl, ho0, hb⟩; refine ⟨_, rfl, ?_⟩; have n0_ := aM (Kd.N_elder' (by (with_reducible repeat (first | apply Kd.N_alloc | apply Kd.N_drewN | apply Kd.N_drew)); exact (Kd.N_mono (Kd.N_far (p := ⟨gb395, 2, none⟩) (Kd.N_far (p := ⟨gb395, 1, none⟩) (Kd.N_far (p := ⟨gb395, 0, none⟩) (Kd.N_mono HO_4.out (fun k_ hk => (⟨hk, hk.2⟩ : _ ∧ k_ ≠ gb395))) (fun _ hk => hk.2) (.int .i64 ((rd_T43 (rd_L2 x3_1 x22_2) x28_3).f0))) (fun _ hk => hk.2) (.int .i64 ((rd_T43 (rd_L2 x3_1 x22_2) x28_3).f1))) (fun _ hk => hk.2) (.int .i64 ((rd_T43 (rd_L2 x3_1 x22_2) x28_3).f2))) (fun _ h_ => h_.1))) (Kd.R_base ho0) hb); have n1_ := aM (Kd.V_elder' (by (with_reducible repeat (first | apply Kd.V_alloc | apply Kd.V_drewN | apply Kd.V_drew)); exact (Kd.V_mono (Kd.V_far (p := ⟨gb395, 2, none⟩) (Kd.V_far (p := ⟨gb395, 1, none⟩) (Kd.V_far (p := ⟨gb395, 0, none⟩) (Kd.V_mono HO_6.out (fun k_ hk => (⟨hk, hk.2⟩ : _ ∧ k_ ≠ gb395))) (fun _ hk => hk.2) (.int .i64 ((rd_T43 (rd_L2 x3_1 x22_2) x28_3).f0))) (fun _ hk => hk.2) (.int .i64 ((rd_T43 (rd_L2 x3_1 x22_2) x28_3).f1))) (fun _ hk => hk.2) (.int .i64 ((rd_T43 (rd_L2 x3_1 x22_2) x28_3).f2))) (fun _ h_ => h_.1))) (Kd.R_base ho0) hb); have n2_ := aM (Kd.N_elder' (by (with_reducible repeat (first | apply Kd.N_alloc | apply Kd.N_drewN | apply Kd.N_drew)); exact (Kd.N_mono (Kd.N_far (p := ⟨gb395, 2, none⟩) (Kd.N_far (p := ⟨gb395, 1, none⟩) (Kd.N_far (p := ⟨gb395, 0, none⟩) (Kd.N_mono HO_20.out (fun k_ hk => (⟨hk, hk.2⟩ : _ ∧ k_ ≠ gb395))) (fun _ hk => hk.2) (.int .i64 ((rd_T43 (rd_L2 x3_1 x22_2) x28_3).f0))) (fun _ hk => hk.2) (.int .i64 ((rd_T43 (rd_L2 x3_1 x22_2) x28_3).f1))) (fun _ hk => hk.2) (.int .i64 ((rd_T43 (rd_L2 x3_1 x22_2) x28_3).f2))) (fun _ h_ => h_.1))) (Kd.R_base ho0) hb); have n3_ := aM (Kd.V_elder' (by (with_reducible repeat (first | apply Kd.V_alloc | apply Kd.V_drewN | apply Kd.V_drew)); exact (Kd.V_mono (Kd.V_far (p := ⟨gb395, 2, none⟩) (Kd.V_far (p := ⟨gb395, 1, none⟩) (Kd.V_far (p := ⟨gb395, 0, none⟩) (Kd.V_mono HO_26.out (fun k_ hk => (⟨hk, hk.2⟩ : _ ∧ k_ ≠ gb395))) (fun _ hk => hk.2) (.int .i64 ((rd_T43 (rd_L2 x3_1 x22_2) x28_3).f0))) (fun _ hk => hk.2) (.int .i64 ((rd_T43 (rd_L2 x3_1 x22_2) x28_3).f1))) (fun _ hk => hk.2) (.int .i64 ((rd_T43 (rd_L2 x3_1 x22_2) x28_3).f2))) (fun _ h_ => h_.1))) (Kd.R_base ho0) hb); have n4_ := aM (Kd.R_lower (Kd.R_newB (Kd.R_newM (M := fun k_ => (w.heap.size ≤ k_)) ho0 (below_size (zs GE395.out)) (fun k_ h_ => h_)) (g := gb395) (o := .cells #[.int .i64 ((rd_T43 (rd_L2 x3_1 x22_2) x28_3).f0), .int .i64 ((rd_T43 (rd_L2 x3_1 x22_2) x28_3).f1), .int .i64 ((rd_T43 (rd_L2 x3_1 x22_2) x28_3).f2)] 43 (0, 0)) (by (with_reducible repeat (first | refine blk_drewN ?_ _ | refine blk_drew ?_ | refine blk_alloc ?_ _)); refine blk_put (cs := #[.int .i64 ((rd_T43 (rd_L2 x3_1 x22_2) x28_3).f0), .int .i64 ((rd_T43 (rd_L2 x3_1 x22_2) x28_3).f1), .int .i64 0]) ?_ 2 _ rfl; (with_reducible repeat (first | refine blk_drewN ?_ _ | refine blk_drew ?_ | refine blk_alloc ?_ _)); refine blk_put (cs := #[.int .i64 ((rd_T43 (rd_L2 x3_1 x22_2) x28_3).f0), .int .i64 0, .int .i64 0]) ?_ 1 _ rfl; (with_reducible repeat (first | refine blk_drewN ?_ _ | refine blk_drew ?_ | refine blk_alloc ?_ _)); refine blk_put (cs := #[.int .i64 0, .int .i64 0, .int .i64 0]) ?_ 0 _ rfl; (with_reducible repeat (first | refine blk_drewN ?_ _ | refine blk_drew ?_ | refine blk_alloc ?_ _)); exact BK395.out)) (below_size (zs GE395.out))); have n5_ := aM (blk_below (g := gb395) (o := .cells #[.int .i64 ((rd_T43 (rd_L2 x3_1 x22_2) x28_3).f0), .int .i64 ((rd_T43 (rd_L2 x3_1 x22_2) x28_3).f1), .int .i64 ((rd_T43 (rd_L2 x3_1 x22_2) x28_3).f2)] 43 (0, 0)) (by (with_reducible repeat (first | refine blk_drewN ?_ _ | refine blk_drew ?_ | refine blk_alloc ?_ _)); refine blk_put (cs := #[.int .i64 ((rd_T43 (rd_L2 x3_1 x22_2) x28_3).f0), .int .i64 ((rd_T43 (rd_L2 x3_1 x22_2) x28_3).f1), .int .i64 0]) ?_ 2 _ rfl; (with_reducible repeat (first | refine blk_drewN ?_ _ | refine blk_drew ?_ | refine blk_alloc ?_ _)); refine blk_put (cs := #[.int .i64 ((rd_T43 (rd_L2 x3_1 x22_2) x28_3).f0), .int .i64 0, .int .i64 0]) ?_ 1 _ rfl; (with_reducible repeat (first | refine blk_drewN ?_ _ | refine blk_drew ?_ | refine blk_alloc ?_ _)); refine blk_put (cs := #[.int .i64 0, .int .i64 0, .int .i64 0]) ?_ 0 _ rfl; (with_reducible repeat (first | refine blk_drewN ?_ _ | refine blk_drew ?_ | refine blk_alloc ?_ _)); exact BK395.out) hb); have n6_ := aM (below_step (zs GE395.out) hb); clear HO_4 HO_6 HO_20 HO_26 BK395 HB; have HO_4 := n0_; have HO_6 := n1_; have HO_20 := n2_; have HO_26 := n3_; have HO398 := n4_; have BK395 := n5_; have HB := n6_; clear n0_ n1_ n2_ n3_ n4_ n5_ n6_; (try clear hb); (try clear hb2); (try clear hk); (try clear hi); (try clear ho0); obtain ⟨Ao21, co21, eo21⟩ := Kd.R_slice HO398.out; subst eo21))
       go_loopg [4, 35] k3 (fun kq v4 v35 w' => ∃ (x4_4 : List (List (S43))) (x35_4 : Int), v35 = .int .i64 x35_4 ∧ Aside0 (impl_allSolids.l3 kq x4_4 (rd_L2 x3_1 x22_2) (wrap64 (a0 - 1)) x17_1 x3_1 (x3_1.length : Int) x22_2 (rd_L2 x3_1 x22_2) ((rd_L2 x3_1 x22_2).length : Int) x28_3 t396 (t396.length : Int) x35_4 = some r) ∧ Aside0 (kq ≤ k3) ∧ Aside0 (Kd.N (own w.heap.size 43 k43) 40 w' w.heap.size (fun k_ => (w.heap.size ≤ k_) ∧ some k_ ≠ ((.slice (some ad393) x3_1.length co10) : Value).ownBlock ∧ some k_ ≠ ((.slice Ao21 t396.length co21) : Value).ownBlock ∧ k_ ≠ gb395) v4 x4_4) ∧ Aside0 (Kd.V k43 43 w' w.heap.size (fun k_ => (w.heap.size ≤ k_) ∧ some k_ ≠ (v4 : Value).ownBlock ∧ some k_ ≠ ((.slice (some ad393) x3_1.length co10) : Value).ownBlock ∧ some k_ ≠ ((.slice Ao21 t396.length co21) : Value).ownBlock ∧ k_ ≠ gb395) (.slice (some ad394) (rd_L2 x3_1 x22_2).length c393_0) (rd_L2 x3_1 x22_2)) ∧ Aside0 (Kd.N (own w.heap.size 43 k43) 40 w' w.heap.size (fun k_ => (w.heap.size ≤ k_) ∧ some k_ ≠ (v4 : Value).ownBlock ∧ some k_ ≠ ((.slice Ao21 t396.length co21) : Value).ownBlock ∧ k_ ≠ gb395) (.slice (some ad393) x3_1.length co10) x3_1) ∧ Aside0 (Kd.V k43 43 w' w.heap.size (fun k_ => (w.heap.size ≤ k_) ∧ some k_ ≠ (v4 : Value).ownBlock ∧ some k_ ≠ ((.slice (some ad393) x3_1.length co10) : Value).ownBlock ∧ some k_ ≠ ((.slice Ao21 t396.length co21) : Value).ownBlock ∧ k_ ≠ gb395) (.slice (some ad394) (rd_L2 x3_1 x22_2).length c393_0) (rd_L2 x3_1 x22_2)) ∧ Aside0 (Kd.R k43 43 w' w.heap.size (fun k_ => (w.heap.size ≤ k_) ∧ k_ ≠ gb395) (.slice Ao21 t396.length co21) t396) ∧ Aside0 (w'.heap[gb395]? = some (.cells #[.int .i64 ((rd_T43 (rd_L2 x3_1 x22_2) x28_3).f0), .int .i64 ((rd_T43 (rd_L2 x3_1 x22_2) x28_3).f1), .int .i64 ((rd_T43 (rd_L2 x3_1 x22_2) x28_3).f2)] 43 (0, 0))) ∧ Aside0 (Below w.heap.size w w'))
       case atStart => exact ⟨(x4_3), (0), zr, H', ⟨Nat.le_refl _⟩, ⟨zd50 HO_4.out⟩, ⟨zd42 HO_6.out⟩, ⟨zd50 HO_20.out⟩, ⟨zd42 HO_26.out⟩, ⟨zd10 HO398.out⟩, ⟨mB_ BK395.out⟩, ⟨zs GE395.out⟩⟩
       case round =>
        clear H'
        try clear c1
        try clear p2
        try clear c3
        try clear p3
        try clear q3
        try clear hx3
        try clear p6
        try clear c7
        try clear c7b0
        try clear c11
        try clear c11b0
        try clear c12
        try clear c12b0
        try clear c13
        try clear c13b0
        try clear c14
        try clear c14b0
        try clear c15
        try clear c15b0
        try clear c16
        try clear c16b0
        try clear c19
        try clear hcz19_0
        try clear hcz19_1
        try clear hcz19_2
        try clear hfz19_0
        try clear hfz19_1
        try clear hfz19_2
        try clear hx393_0
        try clear hx394_0
        try clear hx394_1
        try clear hx394_2
        try clear p2
        try clear p3
        try clear p393
        try clear p394
        try clear p6
        try clear q3
        try clear q393
        try clear q394
        obtain ⟨x4_4, x35_4, rfl, HA, HK4, HO_4, HO_6, HO_20, HO_26, HO_33, BK395, HB⟩ := hrel
        cases gk with
        | zero => exact absurd HA.out (by simp [impl_allSolids.l3])
        | succ k4 =>
         have H := HA.out
         clear HA
         simp only [impl_allSolids.l3] at H
         by_cases c22 : x35_4 < (t396.length : Int)
         rotate_left
         ·rw [if_neg c22] at H
          have c22b0 : decide (x35_4 < (t396.length : Int)) = false := decide_eq_false c22
          clear c22
          have H' := aM H
          clear H
          go_wp2
          go_roundg k4
          case measure => have := HK1.out; have := HK2.out; have := HK3.out; have := HK4.out; omega
          case rel => exact ⟨(x4_4), (wrap64 (x28_3 + 1)), zr, H', ⟨by have := HK1.out; have := HK2.out; have := HK3.out; have := HK4.out; omega⟩, ⟨zd51 HO_4.out⟩, ⟨zd43 HO_6.out⟩, ⟨zd51 HO_20.out⟩, ⟨zd43 HO_26.out⟩, ⟨zs GE395.out⟩⟩
         rw [if_pos c22] at H
         have c22b0 : decide (x35_4 < (t396.length : Int)) = true := decide_eq_true c22
         clear c22
         by_cases c23 : 0 ≤ x35_4
         rotate_left
         ·rw [if_neg c23] at H
          exact absurd H (by simp)
         rw [if_pos c23] at H
         have c23b0 : decide (0 ≤ x35_4) = true := decide_eq_true c23
         clear c23
         by_cases c24 : x35_4 < (t396.length : Int)
         rotate_left
         ·rw [if_neg c24] at H
          exact absurd H (by simp)
         rw [if_pos c24] at H
         have c24b0 : decide (x35_4 < (t396.length : Int)) = true := decide_eq_true c24
         clear c24
         replace H := Option.bind_eq_some_iff.mp H
         obtain ⟨t401, A250, H⟩ := H
         replace H : (if t401 = true then (impl_allSolids.l3 k4 x4_4 (rd_L2 x3_1 x22_2) (wrap64 (a0 - 1)) x17_1 x3_1 (x3_1.length : Int) x22_2 (rd_L2 x3_1 x22_2) ((rd_L2 x3_1 x22_2).length : Int) x28_3 t396 (t396.length : Int) (wrap64 (x35_4 + 1))) else ((impl_Cube_36.f (rd_L2 x3_1 x22_2)).bind fun t402 => ((some (([(⟨(rd_T43 t396 x35_4).f0, (rd_T43 t396 x35_4).f1, (rd_T43 t396 x35_4).f2⟩ : S43)] : List (S43)) : List (S43))).bind fun y405 => (if t402.length + y405.length < 5864062014805 then ((impl_Cube_37__impl_compareCubes.f (t402 ++ y405)).bind fun t411 => ((impl_normalCubes.f k4 t411).bind fun t412 => ((some (([t412] : List (List (S43))) : List (List (S43)))).bind fun y415 => (if x4_4.length + y415.length < 5864062014805 then (impl_allSolids.l3 k4 (x4_4 ++ y415) (rd_L2 x3_1 x22_2) (wrap64 (a0 - 1)) x17_1 x3_1 (x3_1.length : Int) x22_2 (rd_L2 x3_1 x22_2) ((rd_L2 x3_1 x22_2).length : Int) x28_3 t396 (t396.length : Int) (wrap64 (x35_4 + 1))) else (none))))) else (none))))) = some r := H
         have A25 := aM A250
         clear A250
         by_cases c26 : t401 = true
         ·subst c26
          have H1 : (impl_allSolids.l3 k4 x4_4 (rd_L2 x3_1 x22_2) (wrap64 (a0 - 1)) x17_1 x3_1 (x3_1.length : Int) x22_2 (rd_L2 x3_1 x22_2) ((rd_L2 x3_1 x22_2).length : Int) x28_3 t396 (t396.length : Int) (wrap64 (x35_4 + 1))) = some r := by rw [if_pos rfl] at H; exact H
          clear H
          have H := H1
          clear H1
          have H' := aM H
          clear H
          have p399 : 0 ≤ (x35_4 : Int) := of_decide_eq_true za
          have q399 : x35_4 < (t396.length : Int) := of_decide_eq_true za
          obtain ⟨ad399, e399, hx399_0, hx399_1, hx399_2⟩ := at_T43 (Kd.R_reads' HO_33.out).2.2 x35_4 p399 q399
          cases e399
          replace p399 := eq_true p399
          replace q399 := eq_true q399
          go_wp2_with (first | ((with_reducible refine gate_dst (N := 10) rfl ?_); refine zx 10 #[.int .i64 0, .int .i64 0, .int .i64 0] 43 ?_; intro gb400 hg w27 hbox hb; have n0_ := aM (Kd.N_below (Kd.N_elderB (mN_ HO_4.out) gb400 (Nat.le_of_eq hg.symm)) hb); have n1_ := aM (Kd.V_below (Kd.V_elderB (mV_ HO_6.out) gb400 (Nat.le_of_eq hg.symm)) hb); have n2_ := aM (Kd.N_below (Kd.N_elderB (mN_ HO_20.out) gb400 (Nat.le_of_eq hg.symm)) hb); have n3_ := aM (Kd.V_below (Kd.V_elderB (mV_ HO_26.out) gb400 (Nat.le_of_eq hg.symm)) hb); have n4_ := aM (Kd.R_below (Kd.R_elderB (mR_ HO_33.out) gb400 (Nat.le_of_eq hg.symm)) hb); have n5_ := aM (blk_below (g := gb395) (o := .cells #[.int .i64 ((rd_T43 (rd_L2 x3_1 x22_2) x28_3).f0), .int .i64 ((rd_T43 (rd_L2 x3_1 x22_2) x28_3).f1), .int .i64 ((rd_T43 (rd_L2 x3_1 x22_2) x28_3).f2)] 43 (0, 0)) (mB_ BK395.out) hb); have n6_ := aM (below_step (zs GE395.out) hb); have n7_ := aM (hbox); have n8_ := aM ((zf GE395.out : w.heap.size ≤ gb400)); have n9_ := aM ((zf GE395.out : w.heap.size ≤ gb400)); have n10_ := aM ((zl BK395.out : gb395 ≠ gb400)); have n11_ := aM ((zn BK395.out : gb400 ≠ gb395)); clear HO_4 HO_6 HO_20 HO_26 HO_33 BK395 HB; have HO_4 := n0_; have HO_6 := n1_; have HO_20 := n2_; have HO_26 := n3_; have HO_33 := n4_; have BK395 := n5_; have HB := n6_; have BK400 := n7_; have GW400 := n8_; have GE400 := n9_; have NB395_400 := n10_; have NB400_395 := n11_; clear n0_ n1_ n2_ n3_ n4_ n5_ n6_ n7_ n8_ n9_ n10_ n11_ hb hbox hg; have hnb28 := NB400_395.out; have hnc28 := NB395_400.out; have hcz29_0 : w27.cell? ⟨gb400, 0, none⟩ = some (.int .i64 0) := (blk_cell BK400.out 0).trans rfl; have hcz29_1 : w27.cell? ⟨gb400, 1, none⟩ = some (.int .i64 0) := (blk_cell BK400.out 1).trans rfl; have hcz29_2 : w27.cell? ⟨gb400, 2, none⟩ = some (.int .i64 0) := (blk_cell BK400.out 2).trans rfl; have hfz29_0 := blk_frozen BK400.out 0; have hfz29_1 := blk_frozen BK400.out 1; have hfz29_2 := blk_frozen BK400.out 2) | ((with_reducible refine gate_callee (f := 35) rfl ?_); refine goesL_ (some 41) rfl rfl Try.func35 (by kernel_rfl) rfl #[.slice (some ad394) (rd_L2 x3_1 x22_2).length c393_0, .agg #[.int .i64 ((rd_T43 t396 x35_4).f0), .int .i64 ((rd_T43 t396 x35_4).f1), .int .i64 ((rd_T43 t396 x35_4).f2)]] rfl zm ?_; (with_reducible refine (impl_Cube_35.calls k4 _ _ (rd_L2 x3_1 x22_2) ((rd_T43 t396 x35_4).f0) ((rd_T43 t396 x35_4).f1) ((rd_T43 t396 x35_4).f2) true _ ?side1 ?side2 A25.out).mono ?_); (case side1 => refine (Kd.V_reads' (e := 43) (base := w.heap.size) (ok := fun k_ => (((w.heap.size ≤ k_) ∧ (some k_ ≠ (u4 : Value).ownBlock ∧ (some k_ ≠ (.slice (some ad393) x3_1.length co10 : Value).ownBlock ∧ (some k_ ≠ (.slice (some ad399) t396.length co21 : Value).ownBlock ∧ k_ ≠ gb395)))) ∧ k_ ≠ gb400)) (n := (rd_L2 x3_1 x22_2).length) (c := c393_0) ?_).2.2; exact (by (with_reducible repeat (first | apply Kd.V_alloc | apply Kd.V_drewN | apply Kd.V_drew)); exact (Kd.V_mono (Kd.V_far (p := ⟨gb400, 2, none⟩) (Kd.V_far (p := ⟨gb400, 1, none⟩) (Kd.V_far (p := ⟨gb400, 0, none⟩) (Kd.V_mono HO_6.out (fun k_ hk => (⟨hk, hk.2⟩ : _ ∧ k_ ≠ gb400))) (fun _ hk => hk.2) (.int .i64 ((rd_T43 t396 x35_4).f0))) (fun _ hk => hk.2) (.int .i64 ((rd_T43 t396 x35_4).f1))) (fun _ hk => hk.2) (.int .i64 ((rd_T43 t396 x35_4).f2))) (fun _ h_ => h_.1)))); (case side2 => exact (Kd.V_reads' HO_6.out).2.1); rintro e w30 ⟨rfl, hb⟩; refine ⟨_, rfl, ?_⟩; have n0_ := aM (Kd.N_below (by (with_reducible repeat (first | apply Kd.N_alloc | apply Kd.N_drewN | apply Kd.N_drew)); exact (Kd.N_mono (Kd.N_far (p := ⟨gb400, 2, none⟩) (Kd.N_far (p := ⟨gb400, 1, none⟩) (Kd.N_far (p := ⟨gb400, 0, none⟩) (Kd.N_mono HO_4.out (fun k_ hk => (⟨hk, hk.2⟩ : _ ∧ k_ ≠ gb400))) (fun _ hk => hk.2) (.int .i64 ((rd_T43 t396 x35_4).f0))) (fun _ hk => hk.2) (.int .i64 ((rd_T43 t396 x35_4).f1))) (fun _ hk => hk.2) (.int .i64 ((rd_T43 t396 x35_4).f2))) (fun _ h_ => h_.1))) hb); have n1_ := aM (Kd.V_below (by (with_reducible repeat (first | apply Kd.V_alloc | apply Kd.V_drewN | apply Kd.V_drew)); exact (Kd.V_mono (Kd.V_far (p := ⟨gb400, 2, none⟩) (Kd.V_far (p := ⟨gb400, 1, none⟩) (Kd.V_far (p := ⟨gb400, 0, none⟩) (Kd.V_mono HO_6.out (fun k_ hk => (⟨hk, hk.2⟩ : _ ∧ k_ ≠ gb400))) (fun _ hk => hk.2) (.int .i64 ((rd_T43 t396 x35_4).f0))) (fun _ hk => hk.2) (.int .i64 ((rd_T43 t396 x35_4).f1))) (fun _ hk => hk.2) (.int .i64 ((rd_T43 t396 x35_4).f2))) (fun _ h_ => h_.1))) hb); have n2_ := aM (Kd.N_below (by (with_reducible repeat (first | apply Kd.N_alloc | apply Kd.N_drewN | apply Kd.N_drew)); exact (Kd.N_mono (Kd.N_far (p := ⟨gb400, 2, none⟩) (Kd.N_far (p := ⟨gb400, 1, none⟩) (Kd.N_far (p := ⟨gb400, 0, none⟩) (Kd.N_mono HO_20.out (fun k_ hk => (⟨hk, hk.2⟩ : _ ∧ k_ ≠ gb400))) (fun _ hk => hk.2) (.int .i64 ((rd_T43 t396 x35_4).f0))) (fun _ hk => hk.2) (.int .i64 ((rd_T43 t396 x35_4).f1))) (fun _ hk => hk.2) (.int .i64 ((rd_T43 t396 x35_4).f2))) (fun _ h_ => h_.1))) hb); have n3_ := aM (Kd.V_below (by (with_reducible repeat (first | apply Kd.V_alloc | apply Kd.V_drewN | apply Kd.V_drew)); exact (Kd.V_mono (Kd.V_far (p := ⟨gb400, 2, none⟩) (Kd.V_far (p := ⟨gb400, 1, none⟩) (Kd.V_far (p := ⟨gb400, 0, none⟩) (Kd.V_mono HO_26.out (fun k_ hk => (⟨hk, hk.2⟩ : _ ∧ k_ ≠ gb400))) (fun _ hk => hk.2) (.int .i64 ((rd_T43 t396 x35_4).f0))) (fun _ hk => hk.2) (.int .i64 ((rd_T43 t396 x35_4).f1))) (fun _ hk => hk.2) (.int .i64 ((rd_T43 t396 x35_4).f2))) (fun _ h_ => h_.1))) hb); have n4_ := aM (Kd.R_below (by (with_reducible repeat (first | apply Kd.R_alloc | apply Kd.R_drewN | apply Kd.R_drew)); exact (Kd.R_mono (Kd.R_far (p := ⟨gb400, 2, none⟩) (Kd.R_far (p := ⟨gb400, 1, none⟩) (Kd.R_far (p := ⟨gb400, 0, none⟩) (Kd.R_mono HO_33.out (fun k_ hk => (⟨hk, hk.2⟩ : _ ∧ k_ ≠ gb400))) (fun _ hk => hk.2) (.int .i64 ((rd_T43 t396 x35_4).f0))) (fun _ hk => hk.2) (.int .i64 ((rd_T43 t396 x35_4).f1))) (fun _ hk => hk.2) (.int .i64 ((rd_T43 t396 x35_4).f2))) (fun _ h_ => h_.1))) hb); have n5_ := aM (blk_below (g := gb395) (o := .cells #[.int .i64 ((rd_T43 (rd_L2 x3_1 x22_2) x28_3).f0), .int .i64 ((rd_T43 (rd_L2 x3_1 x22_2) x28_3).f1), .int .i64 ((rd_T43 (rd_L2 x3_1 x22_2) x28_3).f2)] 43 (0, 0)) (by (with_reducible repeat (first | refine blk_drewN ?_ _ | refine blk_drew ?_ | refine blk_alloc ?_ _)); refine blk_far ?_ NB395_400.out _; (with_reducible repeat (first | refine blk_drewN ?_ _ | refine blk_drew ?_ | refine blk_alloc ?_ _)); refine blk_far ?_ NB395_400.out _; (with_reducible repeat (first | refine blk_drewN ?_ _ | refine blk_drew ?_ | refine blk_alloc ?_ _)); refine blk_far ?_ NB395_400.out _; (with_reducible repeat (first | refine blk_drewN ?_ _ | refine blk_drew ?_ | refine blk_alloc ?_ _)); exact BK395.out) hb); have n6_ := aM (blk_below (g := gb400) (o := .cells #[.int .i64 ((rd_T43 t396 x35_4).f0), .int .i64 ((rd_T43 t396 x35_4).f1), .int .i64 ((rd_T43 t396 x35_4).f2)] 43 (0, 0)) (by (with_reducible repeat (first | refine blk_drewN ?_ _ | refine blk_drew ?_ | refine blk_alloc ?_ _)); refine blk_put (cs := #[.int .i64 ((rd_T43 t396 x35_4).f0), .int .i64 ((rd_T43 t396 x35_4).f1), .int .i64 0]) ?_ 2 _ rfl; (with_reducible repeat (first | refine blk_drewN ?_ _ | refine blk_drew ?_ | refine blk_alloc ?_ _)); refine blk_put (cs := #[.int .i64 ((rd_T43 t396 x35_4).f0), .int .i64 0, .int .i64 0]) ?_ 1 _ rfl; (with_reducible repeat (first | refine blk_drewN ?_ _ | refine blk_drew ?_ | refine blk_alloc ?_ _)); refine blk_put (cs := #[.int .i64 0, .int .i64 0, .int .i64 0]) ?_ 0 _ rfl; (with_reducible repeat (first | refine blk_drewN ?_ _ | refine blk_drew ?_ | refine blk_alloc ?_ _)); exact BK400.out) hb); have n7_ := aM (below_step (zt GE395.out GE400.out) hb); clear HO_4 HO_6 HO_20 HO_26 HO_33 BK395 BK400 HB; have HO_4 := n0_; have HO_6 := n1_; have HO_20 := n2_; have HO_26 := n3_; have HO_33 := n4_; have BK395 := n5_; have BK400 := n6_; have HB := n7_; clear n0_ n1_ n2_ n3_ n4_ n5_ n6_ n7_; (try clear hb); (try clear hb2); (try clear hk); (try clear hi)))
          go_roundg k4
          case measure => have := HK1.out; have := HK2.out; have := HK3.out; have := HK4.out; omega
          case rel => exact ⟨(x4_4), (wrap64 (x35_4 + 1)), zr, H', ⟨by have := HK1.out; have := HK2.out; have := HK3.out; have := HK4.out; omega⟩, ⟨zd52 HO_4.out⟩, ⟨zd44 HO_6.out⟩, ⟨zd52 HO_20.out⟩, ⟨zd44 HO_26.out⟩, ⟨zd34 HO_33.out⟩, ⟨mB_ BK395.out⟩, ⟨zt GE395.out GE400.out⟩⟩
         replace c26 := Bool.eq_false_iff.mpr c26
         subst c26
         have H1 : ((impl_Cube_36.f (rd_L2 x3_1 x22_2)).bind fun t402 => ((some (([(⟨(rd_T43 t396 x35_4).f0, (rd_T43 t396 x35_4).f1, (rd_T43 t396 x35_4).f2⟩ : S43)] : List (S43)) : List (S43))).bind fun y405 => (if t402.length + y405.length < 5864062014805 then ((impl_Cube_37__impl_compareCubes.f (t402 ++ y405)).bind fun t411 => ((impl_normalCubes.f k4 t411).bind fun t412 => ((some (([t412] : List (List (S43))) : List (List (S43)))).bind fun y415 => (if x4_4.length + y415.length < 5864062014805 then (impl_allSolids.l3 k4 (x4_4 ++ y415) (rd_L2 x3_1 x22_2) (wrap64 (a0 - 1)) x17_1 x3_1 (x3_1.length : Int) x22_2 (rd_L2 x3_1 x22_2) ((rd_L2 x3_1 x22_2).length : Int) x28_3 t396 (t396.length : Int) (wrap64 (x35_4 + 1))) else (none))))) else (none)))) = some r := by rw [if_neg (show ¬ (false = true) by decide)] at H; exact H
         clear H
         have H := H1
         clear H1
         replace H := Option.bind_eq_some_iff.mp H
         obtain ⟨t402, A310, H⟩ := H
         replace H : ((some (([(⟨(rd_T43 t396 x35_4).f0, (rd_T43 t396 x35_4).f1, (rd_T43 t396 x35_4).f2⟩ : S43)] : List (S43)) : List (S43))).bind fun y405 => (if t402.length + y405.length < 5864062014805 then ((impl_Cube_37__impl_compareCubes.f (t402 ++ y405)).bind fun t411 => ((impl_normalCubes.f k4 t411).bind fun t412 => ((some (([t412] : List (List (S43))) : List (List (S43)))).bind fun y415 => (if x4_4.length + y415.length < 5864062014805 then (impl_allSolids.l3 k4 (x4_4 ++ y415) (rd_L2 x3_1 x22_2) (wrap64 (a0 - 1)) x17_1 x3_1 (x3_1.length : Int) x22_2 (rd_L2 x3_1 x22_2) ((rd_L2 x3_1 x22_2).length : Int) x28_3 t396 (t396.length : Int) (wrap64 (x35_4 + 1))) else (none))))) else (none))) = some r := H
         have A31 := aM A310
         clear A310
         obtain ⟨y405, hy405⟩ : ∃ y_ : List (S43), y_ = (([(⟨(rd_T43 t396 x35_4).f0, (rd_T43 t396 x35_4).f1, (rd_T43 t396 x35_4).f2⟩ : S43)] : List (S43))) := ⟨_, rfl⟩
         replace H : (if t402.length + y405.length < 5864062014805 then ((impl_Cube_37__impl_compareCubes.f (t402 ++ y405)).bind fun t411 => ((impl_normalCubes.f k4 t411).bind fun t412 => ((some (([t412] : List (List (S43))) : List (List (S43)))).bind fun y415 => (if x4_4.length + y415.length < 5864062014805 then (impl_allSolids.l3 k4 (x4_4 ++ y415) (rd_L2 x3_1 x22_2) (wrap64 (a0 - 1)) x17_1 x3_1 (x3_1.length : Int) x22_2 (rd_L2 x3_1 x22_2) ((rd_L2 x3_1 x22_2).length : Int) x28_3 t396 (t396.length : Int) (wrap64 (x35_4 + 1))) else (none))))) else (none)) = some r := zy H hy405
         have Ny405 := aM hy405
         clear hy405
         by_cases c32 : t402.length + y405.length < 5864062014805
         rotate_left
         ·rw [if_neg c32] at H
          exact absurd H (by simp)
         rw [if_pos c32] at H
         have LMc32 := aM c32
         clear c32
         obtain ⟨y408, hy408⟩ : ∃ y_ : List (S43), y_ = (t402 ++ y405) := ⟨_, rfl⟩
         replace H : ((impl_Cube_37__impl_compareCubes.f y408).bind fun t411 => ((impl_normalCubes.f k4 t411).bind fun t412 => ((some (([t412] : List (List (S43))) : List (List (S43)))).bind fun y415 => (if x4_4.length + y415.length < 5864062014805 then (impl_allSolids.l3 k4 (x4_4 ++ y415) (rd_L2 x3_1 x22_2) (wrap64 (a0 - 1)) x17_1 x3_1 (x3_1.length : Int) x22_2 (rd_L2 x3_1 x22_2) ((rd_L2 x3_1 x22_2).length : Int) x28_3 t396 (t396.length : Int) (wrap64 (x35_4 + 1))) else (none))))) = some r := zy H hy408
         have Ny408 := aM hy408
         clear hy408
         replace H := Option.bind_eq_some_iff.mp H
         obtain ⟨t411, A330, H⟩ := H
         replace H : ((impl_normalCubes.f k4 t411).bind fun t412 => ((some (([t412] : List (List (S43))) : List (List (S43)))).bind fun y415 => (if x4_4.length + y415.length < 5864062014805 then (impl_allSolids.l3 k4 (x4_4 ++ y415) (rd_L2 x3_1 x22_2) (wrap64 (a0 - 1)) x17_1 x3_1 (x3_1.length : Int) x22_2 (rd_L2 x3_1 x22_2) ((rd_L2 x3_1 x22_2).length : Int) x28_3 t396 (t396.length : Int) (wrap64 (x35_4 + 1))) else (none)))) = some r := H
         have A33 := aM A330
         clear A330
         replace H := Option.bind_eq_some_iff.mp H
         obtain ⟨t412, A340, H⟩ := H
         replace H : ((some (([t412] : List (List (S43))) : List (List (S43)))).bind fun y415 => (if x4_4.length + y415.length < 5864062014805 then (impl_allSolids.l3 k4 (x4_4 ++ y415) (rd_L2 x3_1 x22_2) (wrap64 (a0 - 1)) x17_1 x3_1 (x3_1.length : Int) x22_2 (rd_L2 x3_1 x22_2) ((rd_L2 x3_1 x22_2).length : Int) x28_3 t396 (t396.length : Int) (wrap64 (x35_4 + 1))) else (none))) = some r := H
         have A34 := aM A340
         clear A340
         obtain ⟨y415, hy415⟩ : ∃ y_ : List (List (S43)), y_ = (([t412] : List (List (S43)))) := ⟨_, rfl⟩
         replace H : (if x4_4.length + y415.length < 5864062014805 then (impl_allSolids.l3 k4 (x4_4 ++ y415) (rd_L2 x3_1 x22_2) (wrap64 (a0 - 1)) x17_1 x3_1 (x3_1.length : Int) x22_2 (rd_L2 x3_1 x22_2) ((rd_L2 x3_1 x22_2).length : Int) x28_3 t396 (t396.length : Int) (wrap64 (x35_4 + 1))) else (none)) = some r := zy H hy415
         have Ny415 := aM hy415
         clear hy415
         by_cases c35 : x4_4.length + y415.length < 5864062014805
         rotate_left
         ·rw [if_neg c35] at H
          exact absurd H (by simp)
         rw [if_pos c35] at H
         have LMc35 := aM c35
         clear c35
         obtain ⟨y418, hy418⟩ : ∃ y_ : List (List (S43)), y_ = (x4_4 ++ y415) := ⟨_, rfl⟩
         replace H : (impl_allSolids.l3 k4 y418 (rd_L2 x3_1 x22_2) (wrap64 (a0 - 1)) x17_1 x3_1 (x3_1.length : Int) x22_2 (rd_L2 x3_1 x22_2) ((rd_L2 x3_1 x22_2).length : Int) x28_3 t396 (t396.length : Int) (wrap64 (x35_4 + 1))) = some r := zy H hy418
         have Ny418 := aM hy418
         clear hy418
         have H' := aM H
         clear H
         have p399 : 0 ≤ (x35_4 : Int) := of_decide_eq_true za
         have q399 : x35_4 < (t396.length : Int) := of_decide_eq_true za
         obtain ⟨ad399, e399, hx399_0, hx399_1, hx399_2⟩ := at_T43 (Kd.R_reads' HO_33.out).2.2 x35_4 p399 q399
         cases e399
         replace p399 := eq_true p399
         replace q399 := eq_true q399
         try go_wp2_with (first | ((with_reducible refine gate_dst (N := 10) rfl ?_); refine zx 10 #[.int .i64 0, .int .i64 0, .int .i64 0] 43 ?_; intro gb400 hg w36 hbox hb; have n0_ := aM (Kd.N_below (Kd.N_elderB (mN_ HO_4.out) gb400 (Nat.le_of_eq hg.symm)) hb); have n1_ := aM (Kd.V_below (Kd.V_elderB (mV_ HO_6.out) gb400 (Nat.le_of_eq hg.symm)) hb); have n2_ := aM (Kd.N_below (Kd.N_elderB (mN_ HO_20.out) gb400 (Nat.le_of_eq hg.symm)) hb); have n3_ := aM (Kd.V_below (Kd.V_elderB (mV_ HO_26.out) gb400 (Nat.le_of_eq hg.symm)) hb); have n4_ := aM (Kd.R_below (Kd.R_elderB (mR_ HO_33.out) gb400 (Nat.le_of_eq hg.symm)) hb); have n5_ := aM (blk_below (g := gb395) (o := .cells #[.int .i64 ((rd_T43 (rd_L2 x3_1 x22_2) x28_3).f0), .int .i64 ((rd_T43 (rd_L2 x3_1 x22_2) x28_3).f1), .int .i64 ((rd_T43 (rd_L2 x3_1 x22_2) x28_3).f2)] 43 (0, 0)) (mB_ BK395.out) hb); have n6_ := aM (below_step (zs GE395.out) hb); have n7_ := aM (hbox); have n8_ := aM ((zf GE395.out : w.heap.size ≤ gb400)); have n9_ := aM ((zf GE395.out : w.heap.size ≤ gb400)); have n10_ := aM ((zl BK395.out : gb395 ≠ gb400)); have n11_ := aM ((zn BK395.out : gb400 ≠ gb395)); clear HO_4 HO_6 HO_20 HO_26 HO_33 BK395 HB; have HO_4 := n0_; have HO_6 := n1_; have HO_20 := n2_; have HO_26 := n3_; have HO_33 := n4_; have BK395 := n5_; have HB := n6_; have BK400 := n7_; have GW400 := n8_; have GE400 := n9_; have NB395_400 := n10_; have NB400_395 := n11_; clear n0_ n1_ n2_ n3_ n4_ n5_ n6_ n7_ n8_ n9_ n10_ n11_ hb hbox hg; have hnb37 := NB400_395.out; have hnc37 := NB395_400.out; have hcz38_0 : w36.cell? ⟨gb400, 0, none⟩ = some (.int .i64 0) := (blk_cell BK400.out 0).trans rfl; have hcz38_1 : w36.cell? ⟨gb400, 1, none⟩ = some (.int .i64 0) := (blk_cell BK400.out 1).trans rfl; have hcz38_2 : w36.cell? ⟨gb400, 2, none⟩ = some (.int .i64 0) := (blk_cell BK400.out 2).trans rfl; have hfz38_0 := blk_frozen BK400.out 0; have hfz38_1 := blk_frozen BK400.out 1; have hfz38_2 := blk_frozen BK400.out 2) | ((with_reducible refine gate_callee (f := 35) rfl ?_); refine goesL_ (some 41) rfl rfl Try.func35 (by kernel_rfl) rfl #[.slice (some ad394) (rd_L2 x3_1 x22_2).length c393_0, .agg #[.int .i64 ((rd_T43 t396 x35_4).f0), .int .i64 ((rd_T43 t396 x35_4).f1), .int .i64 ((rd_T43 t396 x35_4).f2)]] rfl zm ?_; (with_reducible refine (impl_Cube_35.calls k4 _ _ (rd_L2 x3_1 x22_2) ((rd_T43 t396 x35_4).f0) ((rd_T43 t396 x35_4).f1) ((rd_T43 t396 x35_4).f2) false _ ?side1 ?side2 A25.out).mono ?_); (case side1 => refine (Kd.V_reads' (e := 43) (base := w.heap.size) (ok := fun k_ => (((w.heap.size ≤ k_) ∧ (some k_ ≠ (u4 : Value).ownBlock ∧ (some k_ ≠ (.slice (some ad393) x3_1.length co10 : Value).ownBlock ∧ (some k_ ≠ (.slice (some ad399) t396.length co21 : Value).ownBlock ∧ k_ ≠ gb395)))) ∧ k_ ≠ gb400)) (n := (rd_L2 x3_1 x22_2).length) (c := c393_0) ?_).2.2; exact (by (with_reducible repeat (first | apply Kd.V_alloc | apply Kd.V_drewN | apply Kd.V_drew)); exact (Kd.V_mono (Kd.V_far (p := ⟨gb400, 2, none⟩) (Kd.V_far (p := ⟨gb400, 1, none⟩) (Kd.V_far (p := ⟨gb400, 0, none⟩) (Kd.V_mono HO_6.out (fun k_ hk => (⟨hk, hk.2⟩ : _ ∧ k_ ≠ gb400))) (fun _ hk => hk.2) (.int .i64 ((rd_T43 t396 x35_4).f0))) (fun _ hk => hk.2) (.int .i64 ((rd_T43 t396 x35_4).f1))) (fun _ hk => hk.2) (.int .i64 ((rd_T43 t396 x35_4).f2))) (fun _ h_ => h_.1)))); (case side2 => exact (Kd.V_reads' HO_6.out).2.1); rintro e w39 ⟨rfl, hb⟩; refine ⟨_, rfl, ?_⟩; have n0_ := aM (Kd.N_below (by (with_reducible repeat (first | apply Kd.N_alloc | apply Kd.N_drewN | apply Kd.N_drew)); exact (Kd.N_mono (Kd.N_far (p := ⟨gb400, 2, none⟩) (Kd.N_far (p := ⟨gb400, 1, none⟩) (Kd.N_far (p := ⟨gb400, 0, none⟩) (Kd.N_mono HO_4.out (fun k_ hk => (⟨hk, hk.2⟩ : _ ∧ k_ ≠ gb400))) (fun _ hk => hk.2) (.int .i64 ((rd_T43 t396 x35_4).f0))) (fun _ hk => hk.2) (.int .i64 ((rd_T43 t396 x35_4).f1))) (fun _ hk => hk.2) (.int .i64 ((rd_T43 t396 x35_4).f2))) (fun _ h_ => h_.1))) hb); have n1_ := aM (Kd.V_below (by (with_reducible repeat (first | apply Kd.V_alloc | apply Kd.V_drewN | apply Kd.V_drew)); exact (Kd.V_mono (Kd.V_far (p := ⟨gb400, 2, none⟩) (Kd.V_far (p := ⟨gb400, 1, none⟩) (Kd.V_far (p := ⟨gb400, 0, none⟩) (Kd.V_mono HO_6.out (fun k_ hk => (⟨hk, hk.2⟩ : _ ∧ k_ ≠ gb400))) (fun _ hk => hk.2) (.int .i64 ((rd_T43 t396 x35_4).f0))) (fun _ hk => hk.2) (.int .i64 ((rd_T43 t396 x35_4).f1))) (fun _ hk => hk.2) (.int .i64 ((rd_T43 t396 x35_4).f2))) (fun _ h_ => h_.1))) hb); have n2_ := aM (Kd.N_below (by (with_reducible repeat (first | apply Kd.N_alloc | apply Kd.N_drewN | apply Kd.N_drew)); exact (Kd.N_mono (Kd.N_far (p := ⟨gb400, 2, none⟩) (Kd.N_far (p := ⟨gb400, 1, none⟩) (Kd.N_far (p := ⟨gb400, 0, none⟩) (Kd.N_mono HO_20.out (fun k_ hk => (⟨hk, hk.2⟩ : _ ∧ k_ ≠ gb400))) (fun _ hk => hk.2) (.int .i64 ((rd_T43 t396 x35_4).f0))) (fun _ hk => hk.2) (.int .i64 ((rd_T43 t396 x35_4).f1))) (fun _ hk => hk.2) (.int .i64 ((rd_T43 t396 x35_4).f2))) (fun _ h_ => h_.1))) hb); have n3_ := aM (Kd.V_below (by (with_reducible repeat (first | apply Kd.V_alloc | apply Kd.V_drewN | apply Kd.V_drew)); exact (Kd.V_mono (Kd.V_far (p := ⟨gb400, 2, none⟩) (Kd.V_far (p := ⟨gb400, 1, none⟩) (Kd.V_far (p := ⟨gb400, 0, none⟩) (Kd.V_mono HO_26.out (fun k_ hk => (⟨hk, hk.2⟩ : _ ∧ k_ ≠ gb400))) (fun _ hk => hk.2) (.int .i64 ((rd_T43 t396 x35_4).f0))) (fun _ hk => hk.2) (.int .i64 ((rd_T43 t396 x35_4).f1))) (fun _ hk => hk.2) (.int .i64 ((rd_T43 t396 x35_4).f2))) (fun _ h_ => h_.1))) hb); have n4_ := aM (Kd.R_below (by (with_reducible repeat (first | apply Kd.R_alloc | apply Kd.R_drewN | apply Kd.R_drew)); exact (Kd.R_mono (Kd.R_far (p := ⟨gb400, 2, none⟩) (Kd.R_far (p := ⟨gb400, 1, none⟩) (Kd.R_far (p := ⟨gb400, 0, none⟩) (Kd.R_mono HO_33.out (fun k_ hk => (⟨hk, hk.2⟩ : _ ∧ k_ ≠ gb400))) (fun _ hk => hk.2) (.int .i64 ((rd_T43 t396 x35_4).f0))) (fun _ hk => hk.2) (.int .i64 ((rd_T43 t396 x35_4).f1))) (fun _ hk => hk.2) (.int .i64 ((rd_T43 t396 x35_4).f2))) (fun _ h_ => h_.1))) hb); have n5_ := aM (blk_below (g := gb395) (o := .cells #[.int .i64 ((rd_T43 (rd_L2 x3_1 x22_2) x28_3).f0), .int .i64 ((rd_T43 (rd_L2 x3_1 x22_2) x28_3).f1), .int .i64 ((rd_T43 (rd_L2 x3_1 x22_2) x28_3).f2)] 43 (0, 0)) (by (with_reducible repeat (first | refine blk_drewN ?_ _ | refine blk_drew ?_ | refine blk_alloc ?_ _)); refine blk_far ?_ NB395_400.out _; (with_reducible repeat (first | refine blk_drewN ?_ _ | refine blk_drew ?_ | refine blk_alloc ?_ _)); refine blk_far ?_ NB395_400.out _; (with_reducible repeat (first | refine blk_drewN ?_ _ | refine blk_drew ?_ | refine blk_alloc ?_ _)); refine blk_far ?_ NB395_400.out _; (with_reducible repeat (first | refine blk_drewN ?_ _ | refine blk_drew ?_ | refine blk_alloc ?_ _)); exact BK395.out) hb); have n6_ := aM (blk_below (g := gb400) (o := .cells #[.int .i64 ((rd_T43 t396 x35_4).f0), .int .i64 ((rd_T43 t396 x35_4).f1), .int .i64 ((rd_T43 t396 x35_4).f2)] 43 (0, 0)) (by (with_reducible repeat (first | refine blk_drewN ?_ _ | refine blk_drew ?_ | refine blk_alloc ?_ _)); refine blk_put (cs := #[.int .i64 ((rd_T43 t396 x35_4).f0), .int .i64 ((rd_T43 t396 x35_4).f1), .int .i64 0]) ?_ 2 _ rfl; (with_reducible repeat (first | refine blk_drewN ?_ _ | refine blk_drew ?_ | refine blk_alloc ?_ _)); refine blk_put (cs := #[.int .i64 ((rd_T43 t396 x35_4).f0), .int .i64 0, .int .i64 0]) ?_ 1 _ rfl; (with_reducible repeat (first | refine blk_drewN ?_ _ | refine blk_drew ?_ | refine blk_alloc ?_ _)); refine blk_put (cs := #[.int .i64 0, .int .i64 0, .int .i64 0]) ?_ 0 _ rfl; (with_reducible repeat (first | refine blk_drewN ?_ _ | refine blk_drew ?_ | refine blk_alloc ?_ _)); exact BK400.out) hb); have n7_ := aM (below_step (zt GE395.out GE400.out) hb); clear HO_4 HO_6 HO_20 HO_26 HO_33 BK395 BK400 HB; have HO_4 := n0_; have HO_6 := n1_; have HO_20 := n2_; have HO_26 := n3_; have HO_33 := n4_; have BK395 := n5_; have BK400 := n6_; have HB := n7_; clear n0_ n1_ n2_ n3_ n4_ n5_ n6_ n7_; (try clear hb); (try clear hb2); (try clear hk); (try clear hi)))
         have n0_ := aM (Kd.N_drew HO_4.out)
         have n1_ := aM (Kd.V_drew HO_6.out)
         have n2_ := aM (Kd.N_drew HO_20.out)
         have n3_ := aM (Kd.V_drew HO_26.out)
         have n4_ := aM (Kd.R_drew HO_33.out)
         have n5_ := aM (blk_drew BK395.out)
         have n6_ := aM (blk_drew BK400.out)
         have n7_ := aM (below_drew1 HB.out)
         clear HO_4
         clear HO_6
         clear HO_20
         clear HO_26
         clear HO_33
         clear BK395
         clear BK400
         clear HB
         have HO_4 := n0_
         have HO_6 := n1_
         have HO_20 := n2_
         have HO_26 := n3_
         have HO_33 := n4_
         have BK395 := n5_
         have BK400 := n6_
         have HB := n7_
         clear n0_ n1_ n2_ n3_ n4_ n5_ n6_ n7_
         refine start_ (n := 6) (S := fun w' => w'.cell? ⟨gb400, 0, none⟩ = some (.int .i64 ((rd_T43 t396 x35_4).f0)) ∧ w'.cell? ⟨gb400, 1, none⟩ = some (.int .i64 ((rd_T43 t396 x35_4).f1)) ∧ w'.cell? ⟨gb400, 2, none⟩ = some (.int .i64 ((rd_T43 t396 x35_4).f2))) (ds := []) #[false, false, false, false, false, false] (by kernel_rfl) rfl rfl ⟨(blk_cell BK400.out 0).trans rfl, (blk_cell BK400.out 1).trans rfl, (blk_cell BK400.out 2).trans rfl⟩ (fun hHeld => ?_)
         generalize w39.drew = w40 at HO_4 HO_6 HO_20 HO_26 HO_33 BK395 BK400 HB hHeld ⊢
         refine pure_ (i := 0) (N := some 42) (v := ?_) (a' := ?_) #[true, false, false, false, false, false] rfl rfl (by kernel_rfl) (fun _ _ _ h => h) (Or.inl ⟨by rfl, ?_⟩) ?_ ?_
         rotate_left
         ·intro w'
          go_simp
          with_reducible rfl
         rotate_left
         ·simp only [Act.put, xA, xB, xC, i64_w, i32_w]
          rfl
         refine take_ (i := 2) (N := some 44) (v := ?_) (a' := ?_) #[true, false, true, false, false, false] rfl rfl (by kernel_rfl) (fun _ _ _ h => h) (Or.inl ⟨by rfl, ?_⟩) hHeld ?_ ?_
         rotate_left
         ·rintro w' ⟨s0, s1, s2⟩
          go_simp
          with_reducible rfl
         rotate_left
         ·simp only [Act.put, xA, xB, xC, i64_w, i32_w]
          rfl
         refine join_ (σ := Value × Value) 2 #[true, true, true, true, false, false] (fun s_ => [(43, s_.1), (45, s_.2)]) (fun s_ w' => (w'.cell? ⟨gb400, 0, none⟩ = some (.int .i64 ((rd_T43 t396 x35_4).f0)) ∧ w'.cell? ⟨gb400, 1, none⟩ = some (.int .i64 ((rd_T43 t396 x35_4).f1)) ∧ w'.cell? ⟨gb400, 2, none⟩ = some (.int .i64 ((rd_T43 t396 x35_4).f2))) ∧ (Kd.R k43 43 w' w.heap.size (fun k_ => (w.heap.size ≤ k_) ∧ some k_ ≠ (s_.2 : Value).ownBlock ∧ some k_ ≠ (.slice (some ad399) t396.length co21 : Value).ownBlock ∧ k_ ≠ gb395 ∧ k_ ≠ gb400) s_.1 t402) ∧ (Kd.R k43 43 w' w.heap.size (fun k_ => (w.heap.size ≤ k_) ∧ some k_ ≠ (s_.1 : Value).ownBlock ∧ some k_ ≠ (.slice (some ad399) t396.length co21 : Value).ownBlock ∧ k_ ≠ gb395 ∧ k_ ≠ gb400) s_.2 y405) ∧ (Kd.N (own w.heap.size 43 k43) 40 w' w.heap.size (fun k_ => (w.heap.size ≤ k_) ∧ some k_ ≠ (s_.1 : Value).ownBlock ∧ some k_ ≠ (s_.2 : Value).ownBlock ∧ some k_ ≠ (.slice (some ad399) t396.length co21 : Value).ownBlock ∧ some k_ ≠ (u4 : Value).ownBlock ∧ k_ ≠ gb395 ∧ k_ ≠ gb400) (.slice (some ad393) x3_1.length co10) x3_1) ∧ (Kd.V k43 43 w' w.heap.size (fun k_ => (w.heap.size ≤ k_) ∧ some k_ ≠ (s_.1 : Value).ownBlock ∧ some k_ ≠ (s_.2 : Value).ownBlock ∧ some k_ ≠ (.slice (some ad393) x3_1.length co10 : Value).ownBlock ∧ some k_ ≠ (.slice (some ad399) t396.length co21 : Value).ownBlock ∧ some k_ ≠ (u4 : Value).ownBlock ∧ k_ ≠ gb395 ∧ k_ ≠ gb400) (.slice (some ad394) (rd_L2 x3_1 x22_2).length c393_0) (rd_L2 x3_1 x22_2)) ∧ (Kd.R k43 43 w' w.heap.size (fun k_ => (w.heap.size ≤ k_) ∧ some k_ ≠ (s_.1 : Value).ownBlock ∧ some k_ ≠ (s_.2 : Value).ownBlock ∧ k_ ≠ gb395 ∧ k_ ≠ gb400) (.slice (some ad399) t396.length co21) t396) ∧ (Kd.N (own w.heap.size 43 k43) 40 w' w.heap.size (fun k_ => (w.heap.size ≤ k_) ∧ some k_ ≠ (s_.1 : Value).ownBlock ∧ some k_ ≠ (s_.2 : Value).ownBlock ∧ some k_ ≠ (.slice (some ad393) x3_1.length co10 : Value).ownBlock ∧ some k_ ≠ (.slice (some ad399) t396.length co21 : Value).ownBlock ∧ k_ ≠ gb395 ∧ k_ ≠ gb400) u4 x4_4) ∧ (Kd.V k43 43 w' w.heap.size (fun k_ => (w.heap.size ≤ k_) ∧ some k_ ≠ (s_.1 : Value).ownBlock ∧ some k_ ≠ (s_.2 : Value).ownBlock ∧ some k_ ≠ (.slice (some ad393) x3_1.length co10 : Value).ownBlock ∧ some k_ ≠ (.slice (some ad399) t396.length co21 : Value).ownBlock ∧ some k_ ≠ (u4 : Value).ownBlock ∧ k_ ≠ gb395 ∧ k_ ≠ gb400) (.slice (some ad394) (rd_L2 x3_1 x22_2).length c393_0) (rd_L2 x3_1 x22_2)) ∧ (w'.heap[gb395]? = some (.cells #[.int .i64 ((rd_T43 (rd_L2 x3_1 x22_2) x28_3).f0), .int .i64 ((rd_T43 (rd_L2 x3_1 x22_2) x28_3).f1), .int .i64 ((rd_T43 (rd_L2 x3_1 x22_2) x28_3).f2)] 43 (0, 0))) ∧ (w'.heap[gb400]? = some (.cells #[.int .i64 ((rd_T43 t396 x35_4).f0), .int .i64 ((rd_T43 t396 x35_4).f1), .int .i64 ((rd_T43 t396 x35_4).f2)] 43 (0, 0))) ∧ (Below w.heap.size w w')) ?_ ?_
         rotate_left
         ·intro hCont
          refine two_ (i := 1) (j := 3) (Ni := some 43) (Nj := some 45) #[true, true, true, false, false, false] #[true, false, true, true, false, false] rfl rfl rfl rfl (by kernel_rfl) (by decide) (by decide) (fun K hK => ?_) (fun K hK => ?_)
          ·skip
           refine goes_ Try.func36 (by kernel_rfl) rfl #[.slice (some ad394) (rd_L2 x3_1 x22_2).length c393_0] (by rfl) rfl rfl zm ?_
           with_reducible refine (impl_Cube_36.calls _ _ (rd_L2 x3_1 x22_2) t402 _ ?side1 ?side2 A31.out).mono ?_
           (case side1 => repeat (first | exact (Kd.V_reads' HO_6.out).2.2 | (with_reducible refine Kd.C_alloc ?_ _) | (with_reducible refine Kd.C_drewN ?_ _) | (with_reducible refine Kd.C_drew ?_)))
           (case side2 => exact (Kd.V_reads' HO_6.out).2.1)
           rintro e w41 ⟨v403, rfl, ho0, hb⟩
           refine ⟨_, rfl, ?_⟩
           have n0_ := aM (Kd.N_elder' (mN_ HO_4.out) (Kd.R_base ho0) hb)
           have n1_ := aM (Kd.V_elder' (mV_ HO_6.out) (Kd.R_base ho0) hb)
           have n2_ := aM (Kd.N_elder' (mN_ HO_20.out) (Kd.R_base ho0) hb)
           have n3_ := aM (Kd.V_elder' (mV_ HO_26.out) (Kd.R_base ho0) hb)
           have n4_ := aM (Kd.R_elder' (mR_ HO_33.out) (Kd.R_base ho0) hb)
           have n5_ := aM (Kd.R_lower (Kd.R_newB (Kd.R_newB (Kd.R_new' (Kd.R_newM (M := fun k_ => (w.heap.size ≤ k_)) ho0 (below_size (zt GE395.out GE400.out)) (fun k_ h_ => h_)) (Kd.R_lt (mR_ HO_33.out))) (g := gb395) (o := .cells #[.int .i64 ((rd_T43 (rd_L2 x3_1 x22_2) x28_3).f0), .int .i64 ((rd_T43 (rd_L2 x3_1 x22_2) x28_3).f1), .int .i64 ((rd_T43 (rd_L2 x3_1 x22_2) x28_3).f2)] 43 (0, 0)) (mB_ BK395.out)) (g := gb400) (o := .cells #[.int .i64 ((rd_T43 t396 x35_4).f0), .int .i64 ((rd_T43 t396 x35_4).f1), .int .i64 ((rd_T43 t396 x35_4).f2)] 43 (0, 0)) (mB_ BK400.out)) (below_size (zt GE395.out GE400.out)))
           have n6_ := aM (blk_below (g := gb395) (o := .cells #[.int .i64 ((rd_T43 (rd_L2 x3_1 x22_2) x28_3).f0), .int .i64 ((rd_T43 (rd_L2 x3_1 x22_2) x28_3).f1), .int .i64 ((rd_T43 (rd_L2 x3_1 x22_2) x28_3).f2)] 43 (0, 0)) (mB_ BK395.out) hb)
           have n7_ := aM (blk_below (g := gb400) (o := .cells #[.int .i64 ((rd_T43 t396 x35_4).f0), .int .i64 ((rd_T43 t396 x35_4).f1), .int .i64 ((rd_T43 t396 x35_4).f2)] 43 (0, 0)) (mB_ BK400.out) hb)
           have n8_ := aM (below_step (zt GE395.out GE400.out) hb)
           clear HO_4
           clear HO_6
           clear HO_20
           clear HO_26
           clear HO_33
           clear BK395
           clear BK400
           clear HB
           have HO_4 := n0_
           have HO_6 := n1_
           have HO_20 := n2_
           have HO_26 := n3_
           have HO_33 := n4_
           have HO404 := n5_
           have BK395 := n6_
           have BK400 := n7_
           have HB := n8_
           clear n0_ n1_ n2_ n3_ n4_ n5_ n6_ n7_ n8_
           (try clear hb)
           (try clear hb2)
           (try clear hk)
           (try clear hi)
           (try clear ho0)
           refine hK.out _ _ ⟨(blk_cell BK400.out 0).trans rfl, (blk_cell BK400.out 1).trans rfl, (blk_cell BK400.out 2).trans rfl⟩ (fun hHeld => ?_)
           clear hK K
           refine norm_ (a' := ?_) ?_ ?_
           rotate_left
           ·show Act.put _ (some 43) _ = _
            simp only [Act.put, xA, xB, xC, i64_w, i32_w]
            rfl
           refine one_ (i := 3) (N := some 45) #[true, true, true, true, false, false] rfl rfl (by kernel_rfl) (by decide) (fun K hK => ?_)
           refine Kd.R_lit_step k43 _ 43 ?hg (N := 45) ?hd (xs := ([(⟨(rd_T43 t396 x35_4).f0, (rd_T43 t396 x35_4).f1, (rd_T43 t396 x35_4).f2⟩ : S43)] : List (S43))) (inner := [.int .i64 ((rd_T43 t396 x35_4).f0), .int .i64 ((rd_T43 t396 x35_4).f1), .int .i64 ((rd_T43 t396 x35_4).f2)]) (ok := fun _ => True) (okp := fun _ => True) ?hr ?hp (fun _ hk => hk) trivial (Below.refl _ _) (Nat.le_refl _) (by simp) ?_; (case hd => rfl); (case hg => rfl); (case hr => first | (go_simp; done) | (go_simp; rfl)); (case hp => exact (Reps.c3 (show Kd.M k43 _ _ _ (⟨(rd_T43 t396 x35_4).f0, (rd_T43 t396 x35_4).f1, (rd_T43 t396 x35_4).f2⟩ : S43) [.int .i64 ((rd_T43 t396 x35_4).f0), .int .i64 ((rd_T43 t396 x35_4).f1), .int .i64 ((rd_T43 t396 x35_4).f2)] from (k43_mkM _ _ _ (⟨(rd_T43 t396 x35_4).f0, (rd_T43 t396 x35_4).f1, (rd_T43 t396 x35_4).f2⟩ : S43) )) (Reps.none _ _)))
           intro v406 w42 ho43 hb hg_ hnew_
           clear hg_ hnew_
           (first | rw [← Ny405.out] at ho43 | (simp only [Int.reduceToNat] at ho43; rw [← Ny405.out] at ho43))
           have n0_ := aM (Kd.N_elder' (mN_ HO_4.out) (Kd.R_base ho43) hb)
           have n1_ := aM (Kd.V_elder' (mV_ HO_6.out) (Kd.R_base ho43) hb)
           have n2_ := aM (Kd.N_elder' (mN_ HO_20.out) (Kd.R_base ho43) hb)
           have n3_ := aM (Kd.V_elder' (mV_ HO_26.out) (Kd.R_base ho43) hb)
           have n4_ := aM (Kd.R_elder' (mR_ HO_33.out) (Kd.R_base ho43) hb)
           have n5_ := aM (Kd.R_elder' (mR_ HO404.out) (Kd.R_base ho43) hb)
           have n6_ := aM (Kd.R_lower (Kd.R_newB (Kd.R_newB (Kd.R_new' (Kd.R_new' (Kd.R_newM (M := fun k_ => (w.heap.size ≤ k_)) ho43 (below_size (zt GE395.out GE400.out)) (fun k_ h_ => h_)) (Kd.R_lt (mR_ HO_33.out))) (Kd.R_lt (mR_ HO404.out))) (g := gb395) (o := .cells #[.int .i64 ((rd_T43 (rd_L2 x3_1 x22_2) x28_3).f0), .int .i64 ((rd_T43 (rd_L2 x3_1 x22_2) x28_3).f1), .int .i64 ((rd_T43 (rd_L2 x3_1 x22_2) x28_3).f2)] 43 (0, 0)) (mB_ BK395.out)) (g := gb400) (o := .cells #[.int .i64 ((rd_T43 t396 x35_4).f0), .int .i64 ((rd_T43 t396 x35_4).f1), .int .i64 ((rd_T43 t396 x35_4).f2)] 43 (0, 0)) (mB_ BK400.out)) (below_size (zt GE395.out GE400.out)))
           have n7_ := aM (blk_below (g := gb395) (o := .cells #[.int .i64 ((rd_T43 (rd_L2 x3_1 x22_2) x28_3).f0), .int .i64 ((rd_T43 (rd_L2 x3_1 x22_2) x28_3).f1), .int .i64 ((rd_T43 (rd_L2 x3_1 x22_2) x28_3).f2)] 43 (0, 0)) (mB_ BK395.out) hb)
           have n8_ := aM (blk_below (g := gb400) (o := .cells #[.int .i64 ((rd_T43 t396 x35_4).f0), .int .i64 ((rd_T43 t396 x35_4).f1), .int .i64 ((rd_T43 t396 x35_4).f2)] 43 (0, 0)) (mB_ BK400.out) hb)
           have n9_ := aM (below_step (zt GE395.out GE400.out) hb)
           clear HO_4
           clear HO_6
           clear HO_20
           clear HO_26
           clear HO_33
           clear HO404
           clear BK395
           clear BK400
           clear HB
           have HO_4 := n0_
           have HO_6 := n1_
           have HO_20 := n2_
           have HO_26 := n3_
           have HO_33 := n4_
           have HO404 := n5_
           have HO407 := n6_
           have BK395 := n7_
           have BK400 := n8_
           have HB := n9_
           clear n0_ n1_ n2_ n3_ n4_ n5_ n6_ n7_ n8_ n9_
           clear hb ho43
           refine hK.out _ _ ⟨(blk_cell BK400.out 0).trans rfl, (blk_cell BK400.out 1).trans rfl, (blk_cell BK400.out 2).trans rfl⟩ (fun hHeld => ?_)
           clear hK K
           refine norm_ (a' := ?_) ?_ ?_
           rotate_left
           ·show Act.put _ (some 45) _ = _
            simp only [Act.put, xA, xB, xC, i64_w, i32_w]
            rfl
           exact norm_ (by simp only [putAll, Act.put, xA, xB, xC]) (hCont (v403, v406) _ ⟨hHeld, (zd35 HO404.out), (zd36 HO407.out), (zd53 HO_20.out), (zd45 HO_26.out), (zd37 HO_33.out), (zd54 HO_4.out), (zd45 HO_6.out), (mB_ BK395.out), (mB_ BK400.out), (zt GE395.out GE400.out)⟩)
          ·skip
           refine Kd.R_lit_step k43 _ 43 ?hg (N := 45) ?hd (xs := ([(⟨(rd_T43 t396 x35_4).f0, (rd_T43 t396 x35_4).f1, (rd_T43 t396 x35_4).f2⟩ : S43)] : List (S43))) (inner := [.int .i64 ((rd_T43 t396 x35_4).f0), .int .i64 ((rd_T43 t396 x35_4).f1), .int .i64 ((rd_T43 t396 x35_4).f2)]) (ok := fun _ => True) (okp := fun _ => True) ?hr ?hp (fun _ hk => hk) trivial (Below.refl _ _) (Nat.le_refl _) (by simp) ?_; (case hd => rfl); (case hg => rfl); (case hr => first | (go_simp; done) | (go_simp; rfl)); (case hp => exact (Reps.c3 (show Kd.M k43 _ _ _ (⟨(rd_T43 t396 x35_4).f0, (rd_T43 t396 x35_4).f1, (rd_T43 t396 x35_4).f2⟩ : S43) [.int .i64 ((rd_T43 t396 x35_4).f0), .int .i64 ((rd_T43 t396 x35_4).f1), .int .i64 ((rd_T43 t396 x35_4).f2)] from (k43_mkM _ _ _ (⟨(rd_T43 t396 x35_4).f0, (rd_T43 t396 x35_4).f1, (rd_T43 t396 x35_4).f2⟩ : S43) )) (Reps.none _ _)))
           intro v406 w41 ho42 hb hg_ hnew_
           clear hg_ hnew_
           (first | rw [← Ny405.out] at ho42 | (simp only [Int.reduceToNat] at ho42; rw [← Ny405.out] at ho42))
           have n0_ := aM (Kd.N_elder' (mN_ HO_4.out) (Kd.R_base ho42) hb)
           have n1_ := aM (Kd.V_elder' (mV_ HO_6.out) (Kd.R_base ho42) hb)
           have n2_ := aM (Kd.N_elder' (mN_ HO_20.out) (Kd.R_base ho42) hb)
           have n3_ := aM (Kd.V_elder' (mV_ HO_26.out) (Kd.R_base ho42) hb)
           have n4_ := aM (Kd.R_elder' (mR_ HO_33.out) (Kd.R_base ho42) hb)
           have n5_ := aM (Kd.R_lower (Kd.R_newB (Kd.R_newB (Kd.R_new' (Kd.R_newM (M := fun k_ => (w.heap.size ≤ k_)) ho42 (below_size (zt GE395.out GE400.out)) (fun k_ h_ => h_)) (Kd.R_lt (mR_ HO_33.out))) (g := gb395) (o := .cells #[.int .i64 ((rd_T43 (rd_L2 x3_1 x22_2) x28_3).f0), .int .i64 ((rd_T43 (rd_L2 x3_1 x22_2) x28_3).f1), .int .i64 ((rd_T43 (rd_L2 x3_1 x22_2) x28_3).f2)] 43 (0, 0)) (mB_ BK395.out)) (g := gb400) (o := .cells #[.int .i64 ((rd_T43 t396 x35_4).f0), .int .i64 ((rd_T43 t396 x35_4).f1), .int .i64 ((rd_T43 t396 x35_4).f2)] 43 (0, 0)) (mB_ BK400.out)) (below_size (zt GE395.out GE400.out)))
           have n6_ := aM (blk_below (g := gb395) (o := .cells #[.int .i64 ((rd_T43 (rd_L2 x3_1 x22_2) x28_3).f0), .int .i64 ((rd_T43 (rd_L2 x3_1 x22_2) x28_3).f1), .int .i64 ((rd_T43 (rd_L2 x3_1 x22_2) x28_3).f2)] 43 (0, 0)) (mB_ BK395.out) hb)
           have n7_ := aM (blk_below (g := gb400) (o := .cells #[.int .i64 ((rd_T43 t396 x35_4).f0), .int .i64 ((rd_T43 t396 x35_4).f1), .int .i64 ((rd_T43 t396 x35_4).f2)] 43 (0, 0)) (mB_ BK400.out) hb)
           have n8_ := aM (below_step (zt GE395.out GE400.out) hb)
           clear HO_4
           clear HO_6
           clear HO_20
           clear HO_26
           clear HO_33
           clear BK395
           clear BK400
           clear HB
           have HO_4 := n0_
           have HO_6 := n1_
           have HO_20 := n2_
           have HO_26 := n3_
           have HO_33 := n4_
           have HO407 := n5_
           have BK395 := n6_
           have BK400 := n7_
           have HB := n8_
           clear n0_ n1_ n2_ n3_ n4_ n5_ n6_ n7_ n8_
           clear hb ho42
           refine hK.out _ _ ⟨(blk_cell BK400.out 0).trans rfl, (blk_cell BK400.out 1).trans rfl, (blk_cell BK400.out 2).trans rfl⟩ (fun hHeld => ?_)
           clear hK K
           refine norm_ (a' := ?_) ?_ ?_
           rotate_left
           ·show Act.put _ (some 45) _ = _
            simp only [Act.put, xA, xB, xC, i64_w, i32_w]
            rfl
           refine one_ (i := 1) (N := some 43) #[true, true, true, true, false, false] rfl rfl (by kernel_rfl) (by decide) (fun K hK => ?_)
           refine goes_ Try.func36 (by kernel_rfl) rfl #[.slice (some ad394) (rd_L2 x3_1 x22_2).length c393_0] (by rfl) rfl rfl zm ?_
           with_reducible refine (impl_Cube_36.calls _ _ (rd_L2 x3_1 x22_2) t402 _ ?side1 ?side2 A31.out).mono ?_
           (case side1 => repeat (first | exact (Kd.V_reads' HO_6.out).2.2 | (with_reducible refine Kd.C_alloc ?_ _) | (with_reducible refine Kd.C_drewN ?_ _) | (with_reducible refine Kd.C_drew ?_)))
           (case side2 => exact (Kd.V_reads' HO_6.out).2.1)
           rintro e w43 ⟨v403, rfl, ho0, hb⟩
           refine ⟨_, rfl, ?_⟩
           have n0_ := aM (Kd.N_elder' (mN_ HO_4.out) (Kd.R_base ho0) hb)
           have n1_ := aM (Kd.V_elder' (mV_ HO_6.out) (Kd.R_base ho0) hb)
           have n2_ := aM (Kd.N_elder' (mN_ HO_20.out) (Kd.R_base ho0) hb)
           have n3_ := aM (Kd.V_elder' (mV_ HO_26.out) (Kd.R_base ho0) hb)
           have n4_ := aM (Kd.R_elder' (mR_ HO_33.out) (Kd.R_base ho0) hb)
           have n5_ := aM (Kd.R_elder' (mR_ HO407.out) (Kd.R_base ho0) hb)
           have n6_ := aM (Kd.R_lower (Kd.R_newB (Kd.R_newB (Kd.R_new' (Kd.R_new' (Kd.R_newM (M := fun k_ => (w.heap.size ≤ k_)) ho0 (below_size (zt GE395.out GE400.out)) (fun k_ h_ => h_)) (Kd.R_lt (mR_ HO_33.out))) (Kd.R_lt (mR_ HO407.out))) (g := gb395) (o := .cells #[.int .i64 ((rd_T43 (rd_L2 x3_1 x22_2) x28_3).f0), .int .i64 ((rd_T43 (rd_L2 x3_1 x22_2) x28_3).f1), .int .i64 ((rd_T43 (rd_L2 x3_1 x22_2) x28_3).f2)] 43 (0, 0)) (mB_ BK395.out)) (g := gb400) (o := .cells #[.int .i64 ((rd_T43 t396 x35_4).f0), .int .i64 ((rd_T43 t396 x35_4).f1), .int .i64 ((rd_T43 t396 x35_4).f2)] 43 (0, 0)) (mB_ BK400.out)) (below_size (zt GE395.out GE400.out)))
           have n7_ := aM (blk_below (g := gb395) (o := .cells #[.int .i64 ((rd_T43 (rd_L2 x3_1 x22_2) x28_3).f0), .int .i64 ((rd_T43 (rd_L2 x3_1 x22_2) x28_3).f1), .int .i64 ((rd_T43 (rd_L2 x3_1 x22_2) x28_3).f2)] 43 (0, 0)) (mB_ BK395.out) hb)
           have n8_ := aM (blk_below (g := gb400) (o := .cells #[.int .i64 ((rd_T43 t396 x35_4).f0), .int .i64 ((rd_T43 t396 x35_4).f1), .int .i64 ((rd_T43 t396 x35_4).f2)] 43 (0, 0)) (mB_ BK400.out) hb)
           have n9_ := aM (below_step (zt GE395.out GE400.out) hb)
           clear HO_4
           clear HO_6
           clear HO_20
           clear HO_26
           clear HO_33
           clear HO407
           clear BK395
           clear BK400
           clear HB
           have HO_4 := n0_
           have HO_6 := n1_
           have HO_20 := n2_
           have HO_26 := n3_
           have HO_33 := n4_
           have HO407 := n5_
           have HO404 := n6_
           have BK395 := n7_
           have BK400 := n8_
           have HB := n9_
           clear n0_ n1_ n2_ n3_ n4_ n5_ n6_ n7_ n8_ n9_
           (try clear hb)
           (try clear hb2)
           (try clear hk)
           (try clear hi)
           (try clear ho0)
           refine hK.out _ _ ⟨(blk_cell BK400.out 0).trans rfl, (blk_cell BK400.out 1).trans rfl, (blk_cell BK400.out 2).trans rfl⟩ (fun hHeld => ?_)
           clear hK K
           refine norm_ (a' := ?_) ?_ ?_
           rotate_left
           ·show Act.put _ (some 43) _ = _
            simp only [Act.put, xA, xB, xC, i64_w, i32_w]
            rfl
           exact norm_ (by simp only [putAll, Act.put, xA, xB, xC]) (hCont (v403, v406) _ ⟨hHeld, (zd36 HO404.out), (zd35 HO407.out), (zd55 HO_20.out), (zd46 HO_26.out), (zd38 HO_33.out), (zd56 HO_4.out), (zd46 HO_6.out), (mB_ BK395.out), (mB_ BK400.out), (zt GE395.out GE400.out)⟩)
         rintro ⟨v403, v406⟩ w44 ⟨hS_, h0_, h1_, h2_, h3_, h4_, h5_, h6_, h7_, h8_, h9_⟩
         have n0_ : Aside0 (Kd.R k43 43 w44 w.heap.size (fun k_ => (w.heap.size ≤ k_) ∧ some k_ ≠ (v406 : Value).ownBlock ∧ some k_ ≠ (.slice (some ad399) t396.length co21 : Value).ownBlock ∧ k_ ≠ gb395 ∧ k_ ≠ gb400) v403 t402) := ⟨h0_⟩
         have n1_ : Aside0 (Kd.R k43 43 w44 w.heap.size (fun k_ => (w.heap.size ≤ k_) ∧ some k_ ≠ (v403 : Value).ownBlock ∧ some k_ ≠ (.slice (some ad399) t396.length co21 : Value).ownBlock ∧ k_ ≠ gb395 ∧ k_ ≠ gb400) v406 y405) := ⟨h1_⟩
         have n2_ : Aside0 (Kd.N (own w.heap.size 43 k43) 40 w44 w.heap.size (fun k_ => (w.heap.size ≤ k_) ∧ some k_ ≠ (v403 : Value).ownBlock ∧ some k_ ≠ (v406 : Value).ownBlock ∧ some k_ ≠ (.slice (some ad399) t396.length co21 : Value).ownBlock ∧ some k_ ≠ (u4 : Value).ownBlock ∧ k_ ≠ gb395 ∧ k_ ≠ gb400) (.slice (some ad393) x3_1.length co10) x3_1) := ⟨h2_⟩
         have n3_ : Aside0 (Kd.V k43 43 w44 w.heap.size (fun k_ => (w.heap.size ≤ k_) ∧ some k_ ≠ (v403 : Value).ownBlock ∧ some k_ ≠ (v406 : Value).ownBlock ∧ some k_ ≠ (.slice (some ad393) x3_1.length co10 : Value).ownBlock ∧ some k_ ≠ (.slice (some ad399) t396.length co21 : Value).ownBlock ∧ some k_ ≠ (u4 : Value).ownBlock ∧ k_ ≠ gb395 ∧ k_ ≠ gb400) (.slice (some ad394) (rd_L2 x3_1 x22_2).length c393_0) (rd_L2 x3_1 x22_2)) := ⟨h3_⟩
         have n4_ : Aside0 (Kd.R k43 43 w44 w.heap.size (fun k_ => (w.heap.size ≤ k_) ∧ some k_ ≠ (v403 : Value).ownBlock ∧ some k_ ≠ (v406 : Value).ownBlock ∧ k_ ≠ gb395 ∧ k_ ≠ gb400) (.slice (some ad399) t396.length co21) t396) := ⟨h4_⟩
         have n5_ : Aside0 (Kd.N (own w.heap.size 43 k43) 40 w44 w.heap.size (fun k_ => (w.heap.size ≤ k_) ∧ some k_ ≠ (v403 : Value).ownBlock ∧ some k_ ≠ (v406 : Value).ownBlock ∧ some k_ ≠ (.slice (some ad393) x3_1.length co10 : Value).ownBlock ∧ some k_ ≠ (.slice (some ad399) t396.length co21 : Value).ownBlock ∧ k_ ≠ gb395 ∧ k_ ≠ gb400) u4 x4_4) := ⟨h5_⟩
         have n6_ : Aside0 (Kd.V k43 43 w44 w.heap.size (fun k_ => (w.heap.size ≤ k_) ∧ some k_ ≠ (v403 : Value).ownBlock ∧ some k_ ≠ (v406 : Value).ownBlock ∧ some k_ ≠ (.slice (some ad393) x3_1.length co10 : Value).ownBlock ∧ some k_ ≠ (.slice (some ad399) t396.length co21 : Value).ownBlock ∧ some k_ ≠ (u4 : Value).ownBlock ∧ k_ ≠ gb395 ∧ k_ ≠ gb400) (.slice (some ad394) (rd_L2 x3_1 x22_2).length c393_0) (rd_L2 x3_1 x22_2)) := ⟨h6_⟩
         have n7_ : Aside0 (w44.heap[gb395]? = some (.cells #[.int .i64 ((rd_T43 (rd_L2 x3_1 x22_2) x28_3).f0), .int .i64 ((rd_T43 (rd_L2 x3_1 x22_2) x28_3).f1), .int .i64 ((rd_T43 (rd_L2 x3_1 x22_2) x28_3).f2)] 43 (0, 0))) := ⟨h7_⟩
         have n8_ : Aside0 (w44.heap[gb400]? = some (.cells #[.int .i64 ((rd_T43 t396 x35_4).f0), .int .i64 ((rd_T43 t396 x35_4).f1), .int .i64 ((rd_T43 t396 x35_4).f2)] 43 (0, 0))) := ⟨h8_⟩
         have n9_ : Aside0 (Below w.heap.size w w44) := ⟨h9_⟩
         clear HO_4
         clear HO_6
         clear HO_20
         clear HO_26
         clear HO_33
         clear BK395
         clear BK400
         clear HB
         clear h0_ h1_ h2_ h3_ h4_ h5_ h6_ h7_ h8_ h9_
         have HO404 := n0_
         have HO407 := n1_
         have HO_20 := n2_
         have HO_26 := n3_
         have HO_33 := n4_
         have HO_4 := n5_
         have HO_6 := n6_
         have BK395 := n7_
         have BK400 := n8_
         have HB := n9_
         clear n0_ n1_ n2_ n3_ n4_ n5_ n6_ n7_ n8_ n9_
         have hHeld : w44.cell? ⟨gb400, 0, none⟩ = some (.int .i64 ((rd_T43 t396 x35_4).f0)) ∧ w44.cell? ⟨gb400, 1, none⟩ = some (.int .i64 ((rd_T43 t396 x35_4).f1)) ∧ w44.cell? ⟨gb400, 2, none⟩ = some (.int .i64 ((rd_T43 t396 x35_4).f2)) := hS_
         obtain ⟨Ao46, co46, eo46⟩ := Kd.R_slice HO407.out
         (first | subst eo46 | (injection eo46 with f1_ f2_ f3_; have f4_ := f1_.symm; have f5_ := f3_.symm; clear f1_ f2_ f3_; subst f4_; subst f5_))
         refine norm_ (a' := ?_) ?_ ?_
         rotate_left
         ·simp only [putAll, Act.put, xA, xB, xC]
          rfl
         refine one_ (i := 4) (N := some 46) #[true, true, true, true, true, false] rfl rfl (by kernel_rfl) (by decide) (fun K hK => ?_)
         refine Kd.R_append_rows_step k43 (w0 := w) w.heap.size (by rfl) (.tmp 43) (.tmp 45) 40 43 (.agg #[(.int .i64 0), (.int .i64 0), (.int .i64 0)]) 24 rfl Try.underlying40 info43 rfl (by decide) (by omega) v403 t402 y405 _ _ _ (fun k_ => (w.heap.size ≤ k_) ∧ some k_ ≠ (.slice (some ad399) t396.length co21 : Value).ownBlock ∧ some k_ ≠ (.slice Ao46 y405.length co46 : Value).ownBlock ∧ k_ ≠ gb395 ∧ k_ ≠ gb400) (fun _ => False) rfl rfl ?aO ?aR (fun _ _ h => h) (fun _ h => h.elim) ?aF ?aB ?aS ?aL ?_
         (case aR => exact zc HO407.out)
         (case aB => exact (zt GE395.out GE400.out))
         (case aF => exact (fun k_ hk => ⟨(Nat.le_trans (below_size (zt GE395.out GE400.out)) hk), Kd.fresh' (Kd.R_lt (mR_ HO_33.out)) k_ hk, Kd.fresh' (Kd.R_lt (mR_ HO407.out)) k_ hk, Kd.freshB (g := gb395) (o := .cells #[.int .i64 ((rd_T43 (rd_L2 x3_1 x22_2) x28_3).f0), .int .i64 ((rd_T43 (rd_L2 x3_1 x22_2) x28_3).f1), .int .i64 ((rd_T43 (rd_L2 x3_1 x22_2) x28_3).f2)] 43 (0, 0)) (mB_ BK395.out) k_ hk, Kd.freshB (g := gb400) (o := .cells #[.int .i64 ((rd_T43 t396 x35_4).f0), .int .i64 ((rd_T43 t396 x35_4).f1), .int .i64 ((rd_T43 t396 x35_4).f2)] 43 (0, 0)) (mB_ BK400.out) k_ hk⟩))
         (case aO => exact (zd39 HO404.out))
         (case aS => exact (below_size (zt GE395.out GE400.out)))
         (case aL => have := LMc32.out; omega)
         intro v409 w45 ho hb hg hat
         rw [← Ny408.out] at ho
         have n0_ := aM (Kd.N_afterv (ok := (fun k_ => (w.heap.size ≤ k_) ∧ some k_ ≠ (.slice (some ad393) x3_1.length co10 : Value).ownBlock ∧ some k_ ≠ (.slice (some ad399) t396.length co21 : Value).ownBlock ∧ some k_ ≠ (.slice Ao46 y405.length co46 : Value).ownBlock ∧ k_ ≠ gb395 ∧ k_ ≠ gb400)) (zd57 HO_4.out) hg hat)
         have n1_ := aM (Kd.V_afterv (ok := (fun k_ => (w.heap.size ≤ k_) ∧ some k_ ≠ (u4 : Value).ownBlock ∧ some k_ ≠ (.slice (some ad393) x3_1.length co10 : Value).ownBlock ∧ some k_ ≠ (.slice (some ad399) t396.length co21 : Value).ownBlock ∧ some k_ ≠ (.slice Ao46 y405.length co46 : Value).ownBlock ∧ k_ ≠ gb395 ∧ k_ ≠ gb400)) (zd47 HO_6.out) hg hat)
         have n2_ := aM (Kd.N_afterv (ok := (fun k_ => (w.heap.size ≤ k_) ∧ some k_ ≠ (u4 : Value).ownBlock ∧ some k_ ≠ (.slice (some ad399) t396.length co21 : Value).ownBlock ∧ some k_ ≠ (.slice Ao46 y405.length co46 : Value).ownBlock ∧ k_ ≠ gb395 ∧ k_ ≠ gb400)) (zd58 HO_20.out) hg hat)
         have n3_ := aM (Kd.V_afterv (ok := (fun k_ => (w.heap.size ≤ k_) ∧ some k_ ≠ (u4 : Value).ownBlock ∧ some k_ ≠ (.slice (some ad393) x3_1.length co10 : Value).ownBlock ∧ some k_ ≠ (.slice (some ad399) t396.length co21 : Value).ownBlock ∧ some k_ ≠ (.slice Ao46 y405.length co46 : Value).ownBlock ∧ k_ ≠ gb395 ∧ k_ ≠ gb400)) (zd47 HO_26.out) hg hat)
         have n4_ := aM (Kd.R_after (ok := (fun k_ => (w.heap.size ≤ k_) ∧ some k_ ≠ (.slice Ao46 y405.length co46 : Value).ownBlock ∧ k_ ≠ gb395 ∧ k_ ≠ gb400)) (zd40 HO_33.out) hg hat)
         have n5_ := aM (blk_grown (g := gb395) (o := .cells #[.int .i64 ((rd_T43 (rd_L2 x3_1 x22_2) x28_3).f0), .int .i64 ((rd_T43 (rd_L2 x3_1 x22_2) x28_3).f1), .int .i64 ((rd_T43 (rd_L2 x3_1 x22_2) x28_3).f2)] 43 (0, 0)) (mB_ BK395.out) hg (Kd.R_away HO404.out (fun _ hk => hk.2.2.2.1)))
         have n6_ := aM (blk_grown (g := gb400) (o := .cells #[.int .i64 ((rd_T43 t396 x35_4).f0), .int .i64 ((rd_T43 t396 x35_4).f1), .int .i64 ((rd_T43 t396 x35_4).f2)] 43 (0, 0)) (mB_ BK400.out) hg (Kd.R_away HO404.out (fun _ hk => hk.2.2.2.2)))
         have n7_ := aM (Kd.R_after (ok := (fun k_ => (w.heap.size ≤ k_) ∧ some k_ ≠ (.slice (some ad399) t396.length co21 : Value).ownBlock ∧ k_ ≠ gb395 ∧ k_ ≠ gb400)) (zd40 HO407.out) hg hat)
         have n8_ := aM (hb)
         have n9_ := aM (ho)
         clear HO_4
         clear HO_6
         clear HO_20
         clear HO_26
         clear HO_33
         clear BK395
         clear BK400
         clear HO407
         clear HB
         clear HO404
         have HO_4 := n0_
         have HO_6 := n1_
         have HO_20 := n2_
         have HO_26 := n3_
         have HO_33 := n4_
         have BK395 := n5_
         have BK400 := n6_
         have HO407 := n7_
         have HB := n8_
         have HO410 := n9_
         clear n0_ n1_ n2_ n3_ n4_ n5_ n6_ n7_ n8_ n9_
         clear ho hb hg hat
         refine hK.out _ _ ⟨(blk_cell BK400.out 0).trans rfl, (blk_cell BK400.out 1).trans rfl, (blk_cell BK400.out 2).trans rfl⟩ (fun hHeld => ?_)
         clear hK K
         refine norm_ (a' := ?_) ?_ ?_
         rotate_left
         ·show Act.put _ (some 46) _ = _
          simp only [Act.put, xA, xB, xC, i64_w, i32_w]
          rfl
         refine pure_ (i := 5) (N := some 11) (v := ?_) (a' := ?_) #[true, true, true, true, true, true] rfl rfl (by kernel_rfl) (fun _ _ _ h => h) (Or.inl ⟨by rfl, ?_⟩) ?_ ?_
         rotate_left
         ·intro w'
          go_simp
          with_reducible rfl
         rotate_left
         ·simp only [Act.put, xA, xB, xC, i64_w, i32_w]
          rfl
         refine done_ (by kernel_rfl) ?_
         obtain ⟨Ao47, co47, eo47⟩ := Kd.R_slice HO410.out
         subst eo47
         try go_wp2_with (first | ((with_reducible refine gate_callee (f := 37) rfl ?_); refine goesL_ (some 48) rfl rfl Try.func37 (by kernel_rfl) rfl #[.slice Ao47 y408.length co47, .func (.func 38) #[] #[]] rfl zm ?_; (with_reducible refine (impl_Cube_37__impl_compareCubes.calls (fun k_ => some k_ = (.slice Ao47 y408.length co47 : Value).ownBlock) (.slice Ao47 y408.length co47) y408  t411 w _ ?side1 ?side2 A33.out).mono ?_); (case side1 => repeat (first | (with_reducible first | exact HB.out | apply below_alloc | apply pw_below_drewN | apply below_drew1 | refine below_set ?_ GE395.out | refine below_set ?_ GE400.out) | exact HB.out)); (case side2 => exact Kd.R_tight rfl HO410.out); rintro e w48 ⟨rfl, hy0, hb, hkp⟩; refine ⟨_, rfl, ?_⟩; have n0_ := aM (Kd.N_mono (ok' := fun k_ => (w.heap.size ≤ k_) ∧ some k_ ≠ (.slice (some ad393) x3_1.length co10 : Value).ownBlock ∧ some k_ ≠ (.slice (some ad399) t396.length co21 : Value).ownBlock ∧ some k_ ≠ (.slice Ao46 y405.length co46 : Value).ownBlock ∧ some k_ ≠ (.slice Ao47 y408.length co47 : Value).ownBlock ∧ k_ ≠ gb395 ∧ k_ ≠ gb400) (Kd.N_keptB (HO_4.out) hkp (fun k_ hk_ hs_ => (hk_.2) hs_)) (fun k_ hk_ => ⟨hk_.1.1.1, hk_.1.1.2.1, hk_.1.1.2.2.1, hk_.1.1.2.2.2.1, hk_.1.2, hk_.1.1.2.2.2.2.1, hk_.1.1.2.2.2.2.2⟩)); have n1_ := aM (Kd.V_mono (ok' := fun k_ => (w.heap.size ≤ k_) ∧ some k_ ≠ (u4 : Value).ownBlock ∧ some k_ ≠ (.slice (some ad393) x3_1.length co10 : Value).ownBlock ∧ some k_ ≠ (.slice (some ad399) t396.length co21 : Value).ownBlock ∧ some k_ ≠ (.slice Ao46 y405.length co46 : Value).ownBlock ∧ some k_ ≠ (.slice Ao47 y408.length co47 : Value).ownBlock ∧ k_ ≠ gb395 ∧ k_ ≠ gb400) (Kd.V_keptB (HO_6.out) hkp (fun k_ hk_ hs_ => (hk_.2) hs_)) (fun k_ hk_ => ⟨hk_.1.1.1, hk_.1.1.2.1, hk_.1.1.2.2.1, hk_.1.1.2.2.2.1, hk_.1.1.2.2.2.2.1, hk_.1.2, hk_.1.1.2.2.2.2.2.1, hk_.1.1.2.2.2.2.2.2⟩)); have n2_ := aM (Kd.N_mono (ok' := fun k_ => (w.heap.size ≤ k_) ∧ some k_ ≠ (u4 : Value).ownBlock ∧ some k_ ≠ (.slice (some ad399) t396.length co21 : Value).ownBlock ∧ some k_ ≠ (.slice Ao46 y405.length co46 : Value).ownBlock ∧ some k_ ≠ (.slice Ao47 y408.length co47 : Value).ownBlock ∧ k_ ≠ gb395 ∧ k_ ≠ gb400) (Kd.N_keptB (HO_20.out) hkp (fun k_ hk_ hs_ => (hk_.2) hs_)) (fun k_ hk_ => ⟨hk_.1.1.1, hk_.1.1.2.1, hk_.1.1.2.2.1, hk_.1.1.2.2.2.1, hk_.1.2, hk_.1.1.2.2.2.2.1, hk_.1.1.2.2.2.2.2⟩)); have n3_ := aM (Kd.V_mono (ok' := fun k_ => (w.heap.size ≤ k_) ∧ some k_ ≠ (u4 : Value).ownBlock ∧ some k_ ≠ (.slice (some ad393) x3_1.length co10 : Value).ownBlock ∧ some k_ ≠ (.slice (some ad399) t396.length co21 : Value).ownBlock ∧ some k_ ≠ (.slice Ao46 y405.length co46 : Value).ownBlock ∧ some k_ ≠ (.slice Ao47 y408.length co47 : Value).ownBlock ∧ k_ ≠ gb395 ∧ k_ ≠ gb400) (Kd.V_keptB (HO_26.out) hkp (fun k_ hk_ hs_ => (hk_.2) hs_)) (fun k_ hk_ => ⟨hk_.1.1.1, hk_.1.1.2.1, hk_.1.1.2.2.1, hk_.1.1.2.2.2.1, hk_.1.1.2.2.2.2.1, hk_.1.2, hk_.1.1.2.2.2.2.2.1, hk_.1.1.2.2.2.2.2.2⟩)); have n4_ := aM (Kd.R_mono (ok' := fun k_ => (w.heap.size ≤ k_) ∧ some k_ ≠ (.slice Ao46 y405.length co46 : Value).ownBlock ∧ some k_ ≠ (.slice Ao47 y408.length co47 : Value).ownBlock ∧ k_ ≠ gb395 ∧ k_ ≠ gb400) (Kd.R_keptB (HO_33.out) hkp (fun k_ hk_ hs_ => (hk_.2) hs_)) (fun k_ hk_ => ⟨hk_.1.1.1, hk_.1.1.2.1, hk_.1.2, hk_.1.1.2.2.1, hk_.1.1.2.2.2⟩)); have n5_ := aM (blk_kept (mB_ BK395.out) hkp (fun hs_ => (fun e_ => (Kd.R_away HO410.out (fun _ hk => hk.2.2.2.1)) e_) hs_)); have n6_ := aM (blk_kept (mB_ BK400.out) hkp (fun hs_ => (fun e_ => (Kd.R_away HO410.out (fun _ hk => hk.2.2.2.2)) e_) hs_)); have n7_ := aM (Kd.R_mono (ok' := fun k_ => (w.heap.size ≤ k_) ∧ some k_ ≠ (.slice (some ad399) t396.length co21 : Value).ownBlock ∧ some k_ ≠ (.slice Ao47 y408.length co47 : Value).ownBlock ∧ k_ ≠ gb395 ∧ k_ ≠ gb400) (Kd.R_keptB (HO407.out) hkp (fun k_ hk_ hs_ => (hk_.2) hs_)) (fun k_ hk_ => ⟨hk_.1.1.1, hk_.1.1.2.1, hk_.1.2, hk_.1.1.2.2.1, hk_.1.1.2.2.2⟩)); have n8_ := aM (Kd.R_reok rfl hy0 (fun k_ e_ => HO410.out.1 k_ e_)); have n9_ := aM (hb); clear HO_4 HO_6 HO_20 HO_26 HO_33 BK395 BK400 HO407 HO410 HB; have HO_4 := n0_; have HO_6 := n1_; have HO_20 := n2_; have HO_26 := n3_; have HO_33 := n4_; have BK395 := n5_; have BK400 := n6_; have HO407 := n7_; have HO410 := n8_; have HB := n9_; clear n0_ n1_ n2_ n3_ n4_ n5_ n6_ n7_ n8_ n9_; (try clear hb); (try clear hkp); (try clear hy0)) | ((with_reducible refine gate_callee (f := 39) rfl ?_); refine goesL_ (some 51) rfl rfl Try.func39 (by kernel_rfl) rfl #[.slice Ao47 t411.length co47] rfl (by (try simp only [mA, mB, mC]); first | done | (rw [show t411.length = y408.length from (Kd.R_reads' HO410.out).1.symm] <;> rfl) | rfl | (simp only [lD, lT]; rfl)) ?_; (with_reducible refine (impl_normalCubes.calls k4 _ _ t411 t412 _ ?side1 ?side2 A34.out).mono ?_); (case side1 => exact zc HO410.out); (case side2 => rw [show t411.length = y408.length from (Kd.R_reads' HO410.out).1.symm]; exact (Kd.R_reads' HO410.out).2.1); rintro e w49 ⟨v413, rfl, ho0, hb⟩; refine ⟨_, rfl, ?_⟩; have n0_ := aM (Kd.N_elder' (mN_ HO_4.out) (Kd.R_base ho0) hb); have n1_ := aM (Kd.V_elder' (mV_ HO_6.out) (Kd.R_base ho0) hb); have n2_ := aM (Kd.N_elder' (mN_ HO_20.out) (Kd.R_base ho0) hb); have n3_ := aM (Kd.V_elder' (mV_ HO_26.out) (Kd.R_base ho0) hb); have n4_ := aM (Kd.R_elder' (mR_ HO_33.out) (Kd.R_base ho0) hb); have n5_ := aM (Kd.R_elder' (mR_ HO407.out) (Kd.R_base ho0) hb); have n6_ := aM (Kd.R_elder' (mR_ HO410.out) (Kd.R_base ho0) hb); have n7_ := aM (Kd.R_lower (Kd.R_newB (Kd.R_newB (Kd.R_new' (Kd.R_new' (Kd.R_new' (Kd.R_newM (M := fun k_ => (w.heap.size ≤ k_)) ho0 (below_size (zt GE395.out GE400.out)) (fun k_ h_ => h_)) (Kd.R_lt (mR_ HO_33.out))) (Kd.R_lt (mR_ HO407.out))) (Kd.R_lt (mR_ HO410.out))) (g := gb395) (o := .cells #[.int .i64 ((rd_T43 (rd_L2 x3_1 x22_2) x28_3).f0), .int .i64 ((rd_T43 (rd_L2 x3_1 x22_2) x28_3).f1), .int .i64 ((rd_T43 (rd_L2 x3_1 x22_2) x28_3).f2)] 43 (0, 0)) (mB_ BK395.out)) (g := gb400) (o := .cells #[.int .i64 ((rd_T43 t396 x35_4).f0), .int .i64 ((rd_T43 t396 x35_4).f1), .int .i64 ((rd_T43 t396 x35_4).f2)] 43 (0, 0)) (mB_ BK400.out)) (below_size (zt GE395.out GE400.out))); have n8_ := aM (blk_below (g := gb395) (o := .cells #[.int .i64 ((rd_T43 (rd_L2 x3_1 x22_2) x28_3).f0), .int .i64 ((rd_T43 (rd_L2 x3_1 x22_2) x28_3).f1), .int .i64 ((rd_T43 (rd_L2 x3_1 x22_2) x28_3).f2)] 43 (0, 0)) (mB_ BK395.out) hb); have n9_ := aM (blk_below (g := gb400) (o := .cells #[.int .i64 ((rd_T43 t396 x35_4).f0), .int .i64 ((rd_T43 t396 x35_4).f1), .int .i64 ((rd_T43 t396 x35_4).f2)] 43 (0, 0)) (mB_ BK400.out) hb); have n10_ := aM (below_step (zt GE395.out GE400.out) hb); clear HO_4 HO_6 HO_20 HO_26 HO_33 HO407 HO410 BK395 BK400 HB; have HO_4 := n0_; have HO_6 := n1_; have HO_20 := n2_; have HO_26 := n3_; have HO_33 := n4_; have HO407 := n5_; have HO410 := n6_; have HO414 := n7_; have BK395 := n8_; have BK400 := n9_; have HB := n10_; clear n0_ n1_ n2_ n3_ n4_ n5_ n6_ n7_ n8_ n9_ n10_; (try clear hb); (try clear hb2); (try clear hk); (try clear hi); (try clear ho0); obtain ⟨Ao50, co50, eo50⟩ := Kd.R_slice HO414.out; subst eo50) | ((with_reducible refine gate_dst (N := 52) rfl ?_); refine Kd.N_lit (own w.heap.size 43 k43) _ 40 ?hg (N' := 52) ?hd (xs := ([t412] : List (List (S43)))) (inner := [.slice Ao50 t412.length co50]) (ok := (fun k_ => (w.heap.size ≤ k_) ∧ some k_ ≠ (u4 : Value).ownBlock ∧ some k_ ≠ (.slice (some ad393) x3_1.length co10 : Value).ownBlock ∧ some k_ ≠ (.slice (some ad399) t396.length co21 : Value).ownBlock ∧ some k_ ≠ (.slice Ao46 y405.length co46 : Value).ownBlock ∧ some k_ ≠ (.slice Ao47 y408.length co47 : Value).ownBlock ∧ k_ ≠ gb395 ∧ k_ ≠ gb400)) (okp := (fun k_ => (w.heap.size ≤ k_) ∧ some k_ ≠ (u4 : Value).ownBlock ∧ some k_ ≠ (.slice (some ad393) x3_1.length co10 : Value).ownBlock ∧ some k_ ≠ (.slice (some ad399) t396.length co21 : Value).ownBlock ∧ some k_ ≠ (.slice Ao46 y405.length co46 : Value).ownBlock ∧ some k_ ≠ (.slice Ao47 y408.length co47 : Value).ownBlock ∧ k_ ≠ gb395 ∧ k_ ≠ gb400)) ?hr ?hp (fun _ hk => hk) ((show ∀ k_, w49.heap.size ≤ k_ → (fun k_ => (w.heap.size ≤ k_) ∧ some k_ ≠ (u4 : Value).ownBlock ∧ some k_ ≠ (.slice (some ad393) x3_1.length co10 : Value).ownBlock ∧ some k_ ≠ (.slice (some ad399) t396.length co21 : Value).ownBlock ∧ some k_ ≠ (.slice Ao46 y405.length co46 : Value).ownBlock ∧ some k_ ≠ (.slice Ao47 y408.length co47 : Value).ownBlock ∧ k_ ≠ gb395 ∧ k_ ≠ gb400) k_ from fun k_ hk => ⟨(Nat.le_trans (below_size (zt GE395.out GE400.out)) hk), Kd.fresh' (Kd.N_lt (mN_ HO_4.out)) k_ hk, Kd.fresh' (Kd.N_lt (mN_ HO_20.out)) k_ hk, Kd.fresh' (Kd.R_lt (mR_ HO_33.out)) k_ hk, Kd.fresh' (Kd.R_lt (mR_ HO407.out)) k_ hk, Kd.fresh' (Kd.R_lt (mR_ HO410.out)) k_ hk, Kd.freshB (g := gb395) (o := .cells #[.int .i64 ((rd_T43 (rd_L2 x3_1 x22_2) x28_3).f0), .int .i64 ((rd_T43 (rd_L2 x3_1 x22_2) x28_3).f1), .int .i64 ((rd_T43 (rd_L2 x3_1 x22_2) x28_3).f2)] 43 (0, 0)) (mB_ BK395.out) k_ hk, Kd.freshB (g := gb400) (o := .cells #[.int .i64 ((rd_T43 t396 x35_4).f0), .int .i64 ((rd_T43 t396 x35_4).f1), .int .i64 ((rd_T43 t396 x35_4).f2)] 43 (0, 0)) (mB_ BK400.out) k_ hk⟩) _ (Nat.le_refl _)) (Below.refl _ _) (Nat.le_refl _) (by simp) ?_; (case hd => rfl); (case hg => rfl); (case hr => first | (go_simp; done) | (go_simp; rfl)); (case hp => exact (Reps.one (show Kd.FK (own w.heap.size 43 k43) _ _ t412 [.slice Ao50 t412.length co50] from (FKO_R rfl (Kd.R_mono (ok' := (fun k_ => (w.heap.size ≤ k_) ∧ some k_ ≠ (u4 : Value).ownBlock ∧ some k_ ≠ (.slice (some ad393) x3_1.length co10 : Value).ownBlock ∧ some k_ ≠ (.slice (some ad399) t396.length co21 : Value).ownBlock ∧ some k_ ≠ (.slice Ao46 y405.length co46 : Value).ownBlock ∧ some k_ ≠ (.slice Ao47 y408.length co47 : Value).ownBlock ∧ k_ ≠ gb395 ∧ k_ ≠ gb400)) (Kd.R_apart' (Kd.R_apart' (HO414.out) (Kd.N_typed HO_4.out) (by decide)) (Kd.N_typed HO_20.out) (by decide)) (fun k_ hk => ⟨hk.1.1.1.1.1.1.1.1, ⟨hk.1.2, ⟨hk.2, ⟨hk.1.1.1.1.1.1.2, ⟨hk.1.1.1.1.1.2, ⟨hk.1.1.1.1.2, ⟨hk.1.1.1.2, hk.1.1.2⟩⟩⟩⟩⟩⟩⟩)) (Nat.le_refl _))) (Reps.none _ _))); intro v416 w51 ho52 hb hg_ hnew_; clear hg_ hnew_; (first | rw [← Ny415.out] at ho52 | (simp only [Int.reduceToNat] at ho52; rw [← Ny415.out] at ho52)); have n0_ := aM (Kd.N_elder' (mN_ HO_4.out) (by first | exact Kd.N_base ho52 | exact Kd.S_base ho52 | exact Kd.R_base ho52) hb); have n1_ := aM (Kd.V_elder' (mV_ HO_6.out) (by first | exact Kd.N_base ho52 | exact Kd.S_base ho52 | exact Kd.R_base ho52) hb); have n2_ := aM (Kd.N_elder' (mN_ HO_20.out) (by first | exact Kd.N_base ho52 | exact Kd.S_base ho52 | exact Kd.R_base ho52) hb); have n3_ := aM (Kd.V_elder' (mV_ HO_26.out) (by first | exact Kd.N_base ho52 | exact Kd.S_base ho52 | exact Kd.R_base ho52) hb); have n4_ := aM (Kd.R_below (mR_ HO_33.out) hb); have n5_ := aM (Kd.R_below (mR_ HO407.out) hb); have n6_ := aM (Kd.R_below (mR_ HO410.out) hb); have n7_ := aM (Kd.N_lower ho52 (below_size (zt GE395.out GE400.out))); have n8_ := aM (blk_below (g := gb395) (o := .cells #[.int .i64 ((rd_T43 (rd_L2 x3_1 x22_2) x28_3).f0), .int .i64 ((rd_T43 (rd_L2 x3_1 x22_2) x28_3).f1), .int .i64 ((rd_T43 (rd_L2 x3_1 x22_2) x28_3).f2)] 43 (0, 0)) (mB_ BK395.out) hb); have n9_ := aM (blk_below (g := gb400) (o := .cells #[.int .i64 ((rd_T43 t396 x35_4).f0), .int .i64 ((rd_T43 t396 x35_4).f1), .int .i64 ((rd_T43 t396 x35_4).f2)] 43 (0, 0)) (mB_ BK400.out) hb); have n10_ := aM (below_step (zt GE395.out GE400.out) hb); clear HO_4 HO_6 HO_20 HO_26 HO_33 HO407 HO410 BK395 BK400 HB HO414; have HO_4 := n0_; have HO_6 := n1_; have HO_20 := n2_; have HO_26 := n3_; have HO_33 := n4_; have HO407 := n5_; have HO410 := n6_; have HO417 := n7_; have BK395 := n8_; have BK400 := n9_; have HB := n10_; clear n0_ n1_ n2_ n3_ n4_ n5_ n6_ n7_ n8_ n9_ n10_ hb ho52; obtain ⟨Ao54, co54, eo54⟩ := Kd.N_slice HO417.out; subst eo54) | ((with_reducible refine gate_builtin (b := .append) (xs := #[.tmp 49, .tmp 52]) rfl ?_); at_builtin; refine Kd.N_append_rows (own w.heap.size 43 k43) (w0 := w) w.heap.size rfl (.tmp 49) (.tmp 52) 28 40 (.slice none 0 0) 24 rfl Try.underlying28 info40 rfl (Nat.lt_succ_self 0) (by omega) u4 x4_4 y415 _ _ _ (fun k_ => (w.heap.size ≤ k_) ∧ some k_ ≠ (.slice (some ad393) x3_1.length co10 : Value).ownBlock ∧ some k_ ≠ (.slice (some ad399) t396.length co21 : Value).ownBlock ∧ some k_ ≠ (.slice Ao46 y405.length co46 : Value).ownBlock ∧ some k_ ≠ (.slice Ao47 y408.length co47 : Value).ownBlock ∧ k_ ≠ gb395 ∧ k_ ≠ gb400) (fun k_ => ((fun k_ => (w.heap.size ≤ k_) ∧ some k_ ≠ (.slice (some ad393) x3_1.length co10 : Value).ownBlock ∧ some k_ ≠ (.slice (some ad399) t396.length co21 : Value).ownBlock ∧ some k_ ≠ (.slice Ao46 y405.length co46 : Value).ownBlock ∧ some k_ ≠ (.slice Ao47 y408.length co47 : Value).ownBlock ∧ k_ ≠ gb395 ∧ k_ ≠ gb400)) k_ ∧ some k_ ≠ (u4 : Value).ownBlock) rfl rfl ?aO ?aR (fun _ hk => hk) ?aF ?aB ?aS ?aL ?_; (case aR => exact (by skip; exact Kd.N_F (Kd.N_mono (ok' := (fun k_ => ((fun k_ => (w.heap.size ≤ k_) ∧ some k_ ≠ (.slice (some ad393) x3_1.length co10 : Value).ownBlock ∧ some k_ ≠ (.slice (some ad399) t396.length co21 : Value).ownBlock ∧ some k_ ≠ (.slice Ao46 y405.length co46 : Value).ownBlock ∧ some k_ ≠ (.slice Ao47 y408.length co47 : Value).ownBlock ∧ k_ ≠ gb395 ∧ k_ ≠ gb400)) k_ ∧ some k_ ≠ (u4 : Value).ownBlock)) (HO417.out) (fun k_ hk => ⟨⟨hk.1, ⟨hk.2.2.1, ⟨hk.2.2.2.1, ⟨hk.2.2.2.2.1, ⟨hk.2.2.2.2.2.1, ⟨hk.2.2.2.2.2.2.1, hk.2.2.2.2.2.2.2⟩⟩⟩⟩⟩⟩, hk.2.1⟩)))); (case aB => exact (zt GE395.out GE400.out)); (case aF => exact (fun k_ hk => ⟨(Nat.le_trans (below_size (zt GE395.out GE400.out)) hk), Kd.fresh' (Kd.N_lt (mN_ HO_20.out)) k_ hk, Kd.fresh' (Kd.R_lt (mR_ HO_33.out)) k_ hk, Kd.fresh' (Kd.R_lt (mR_ HO407.out)) k_ hk, Kd.fresh' (Kd.R_lt (mR_ HO410.out)) k_ hk, Kd.freshB (g := gb395) (o := .cells #[.int .i64 ((rd_T43 (rd_L2 x3_1 x22_2) x28_3).f0), .int .i64 ((rd_T43 (rd_L2 x3_1 x22_2) x28_3).f1), .int .i64 ((rd_T43 (rd_L2 x3_1 x22_2) x28_3).f2)] 43 (0, 0)) (mB_ BK395.out) k_ hk, Kd.freshB (g := gb400) (o := .cells #[.int .i64 ((rd_T43 t396 x35_4).f0), .int .i64 ((rd_T43 t396 x35_4).f1), .int .i64 ((rd_T43 t396 x35_4).f2)] 43 (0, 0)) (mB_ BK400.out) k_ hk⟩)); (case aO => exact (zd59 HO_4.out)); (case aS => exact (below_size (zt GE395.out GE400.out))); (case aL => have := LMc35.out; omega); intro v419 w53 ho hb hg hat; rw [← Ny418.out] at ho; have n0_ := aM (Kd.V_afterv (ok := (fun k_ => (w.heap.size ≤ k_) ∧ some k_ ≠ (.slice (some ad393) x3_1.length co10 : Value).ownBlock ∧ some k_ ≠ (.slice (some ad399) t396.length co21 : Value).ownBlock ∧ some k_ ≠ (.slice Ao46 y405.length co46 : Value).ownBlock ∧ some k_ ≠ (.slice Ao47 y408.length co47 : Value).ownBlock ∧ some k_ ≠ (.slice Ao54 y415.length co54 : Value).ownBlock ∧ k_ ≠ gb395 ∧ k_ ≠ gb400)) (zd48 HO_6.out) hg hat); have n1_ := aM (Kd.N_afterv (ok := (fun k_ => (w.heap.size ≤ k_) ∧ some k_ ≠ (.slice (some ad399) t396.length co21 : Value).ownBlock ∧ some k_ ≠ (.slice Ao46 y405.length co46 : Value).ownBlock ∧ some k_ ≠ (.slice Ao47 y408.length co47 : Value).ownBlock ∧ some k_ ≠ (.slice Ao54 y415.length co54 : Value).ownBlock ∧ k_ ≠ gb395 ∧ k_ ≠ gb400)) (zd60 HO_20.out) hg hat); have n2_ := aM (Kd.V_afterv (ok := (fun k_ => (w.heap.size ≤ k_) ∧ some k_ ≠ (.slice (some ad393) x3_1.length co10 : Value).ownBlock ∧ some k_ ≠ (.slice (some ad399) t396.length co21 : Value).ownBlock ∧ some k_ ≠ (.slice Ao46 y405.length co46 : Value).ownBlock ∧ some k_ ≠ (.slice Ao47 y408.length co47 : Value).ownBlock ∧ some k_ ≠ (.slice Ao54 y415.length co54 : Value).ownBlock ∧ k_ ≠ gb395 ∧ k_ ≠ gb400)) (zd48 HO_26.out) hg hat); have n3_ := aM (Kd.R_over' (mR_ HO_33.out) (Kd.N_typed (mN_ HO_4.out)) (by decide) hg); have n4_ := aM (blk_grown (g := gb395) (o := .cells #[.int .i64 ((rd_T43 (rd_L2 x3_1 x22_2) x28_3).f0), .int .i64 ((rd_T43 (rd_L2 x3_1 x22_2) x28_3).f1), .int .i64 ((rd_T43 (rd_L2 x3_1 x22_2) x28_3).f2)] 43 (0, 0)) (mB_ BK395.out) hg (Kd.N_ne HO_4.out BK395.out (by decide))); have n5_ := aM (blk_grown (g := gb400) (o := .cells #[.int .i64 ((rd_T43 t396 x35_4).f0), .int .i64 ((rd_T43 t396 x35_4).f1), .int .i64 ((rd_T43 t396 x35_4).f2)] 43 (0, 0)) (mB_ BK400.out) hg (Kd.N_ne HO_4.out BK400.out (by decide))); have n6_ := aM (Kd.R_over' (mR_ HO407.out) (Kd.N_typed (mN_ HO_4.out)) (by decide) hg); have n7_ := aM (Kd.R_over' (mR_ HO410.out) (Kd.N_typed (mN_ HO_4.out)) (by decide) hg); have n8_ := aM (Kd.N_afterv (ok := (fun k_ => (w.heap.size ≤ k_) ∧ some k_ ≠ (.slice (some ad393) x3_1.length co10 : Value).ownBlock ∧ some k_ ≠ (.slice (some ad399) t396.length co21 : Value).ownBlock ∧ some k_ ≠ (.slice Ao46 y405.length co46 : Value).ownBlock ∧ some k_ ≠ (.slice Ao47 y408.length co47 : Value).ownBlock ∧ k_ ≠ gb395 ∧ k_ ≠ gb400)) (zd61 HO417.out) hg hat); have n9_ := aM (hb); have n10_ := aM (ho); clear HO_6 HO_20 HO_26 HO_33 BK395 BK400 HO407 HO410 HO417 HB HO_4; have HO_6 := n0_; have HO_20 := n1_; have HO_26 := n2_; have HO_33 := n3_; have BK395 := n4_; have BK400 := n5_; have HO407 := n6_; have HO410 := n7_; have HO417 := n8_; have HB := n9_; have HO420 := n10_; clear n0_ n1_ n2_ n3_ n4_ n5_ n6_ n7_ n8_ n9_ n10_; clear ho hb hg hat))
         go_roundg k4
         case measure => have := HK1.out; have := HK2.out; have := HK3.out; have := HK4.out; omega
         case rel => exact ⟨(y418), (wrap64 (x35_4 + 1)), zr, H', ⟨by have := HK1.out; have := HK2.out; have := HK3.out; have := HK4.out; omega⟩, ⟨zd62 HO420.out⟩, ⟨zd49 HO_6.out⟩, ⟨zd63 HO_20.out⟩, ⟨zd49 HO_26.out⟩, ⟨zd41 HO_33.out⟩, ⟨mB_ BK395.out⟩, ⟨zt GE395.out GE400.out⟩⟩
end Go.Proofs.Ytlompfboheiliaa.F
end
section
namespace Go.Proofs.Ytlompfboheiliaa.F
open Go.RowKit Go.Proofs.YtlompfboheiliaaW.PrintWords Go.Proofs.YtlompfboheiliaaW.PrintLast Go.Proofs.YtlompfboheiliaaW.PrintMore
attribute [local go_sem] max2_int min2_int max_two min_two max_three min_three max_four min_four
set_option linter.unusedVariables false
set_option linter.unusedSimpArgs false
mutual
def impl_turnCube.j0 : Nat → Int → Int → Int → Int → Option (Int × Int × Int)
 | 0, _, _, _, _ => none
 | k + 1, x1, x422000, x422001, x422002 => impl_turnCube.l0 k x1 (Int.tmod x1 4) 0 x422000 x422001 x422002
def impl_turnCube.l0 : Nat → Int → Int → Int → Int → Int → Int → Option (Int × Int × Int)
 | 0, _, _, _, _, _, _ => none
 | k + 1, x1, x14, x15, x422000, x422001, x422002 => if x15 < x14 then (impl_turnCube.l0 k x1 x14 (wrap64 (x15 + 1)) (wrap64 (-x422001)) x422000 x422002) else (if (Int.tmod (wrap64 (Int.tdiv x1 4)) 6) < 4 then (impl_turnCube.l1 k (Int.tmod (wrap64 (Int.tdiv x1 4)) 6) 0 x422000 x422001 x422002) else (if (Int.tmod (wrap64 (Int.tdiv x1 4)) 6) = 5 then (impl_turnCube.j3 k 3 x422000 x422001 x422002) else (impl_turnCube.j3 k 1 x422000 x422001 x422002)))
def impl_turnCube.l1 : Nat → Int → Int → Int → Int → Int → Option (Int × Int × Int)
 | 0, _, _, _, _, _ => none
 | k + 1, x31, x32, x422000, x422001, x422002 => if x32 < x31 then (impl_turnCube.l1 k x31 (wrap64 (x32 + 1)) x422000 (wrap64 (-x422002)) x422001) else (some (x422000, x422001, x422002))
def impl_turnCube.j3 : Nat → Int → Int → Int → Int → Option (Int × Int × Int)
 | 0, _, _, _, _ => none
 | k + 1, x6, x422000, x422001, x422002 => impl_turnCube.l2 k x6 0 x422000 x422001 x422002
def impl_turnCube.l2 : Nat → Int → Int → Int → Int → Int → Option (Int × Int × Int)
 | 0, _, _, _, _, _ => none
 | k + 1, x46, x47, x422000, x422001, x422002 => if x47 < x46 then (impl_turnCube.l2 k x46 (wrap64 (x47 + 1)) x422002 x422001 (wrap64 (-x422000))) else (some (x422000, x422001, x422002))
end
def impl_turnCube.f (k : Nat) (a0_0 : Int) (a0_1 : Int) (a0_2 : Int) (a1 : Int) : Option (Int × Int × Int) := if a1 ≥ 24 then (impl_turnCube.j0 k a1 (wrap64 (-a0_0)) a0_1 a0_2) else (impl_turnCube.j0 k a1 a0_0 a0_1 a0_2)
theorem impl_turnCube.calls (k : Nat) (a0_0 : Int) (a0_1 : Int) (a0_2 : Int) (a1 : Int) (r1 : Int) (r2 : Int) (r3 : Int) (w : World) (h : impl_turnCube.f k a0_0 a0_1 a0_2 a1 = some (r1, r2, r3)) :
  Calls Try.prog 82 #[.agg #[.int .i64 a0_0, .int .i64 a0_1, .int .i64 a0_2], .int .i64 a1] w fun e w' => e = .returned (.agg #[.int .i64 r1, .int .i64 r2, .int .i64 r3]) ∧ Below w.heap.size w w' := by
 have hu43 := Try.underlying43
 have HB := aM (Below.refl w.heap.size w)
 have H : (if a1 ≥ 24 then (impl_turnCube.j0 k a1 (wrap64 (-a0_0)) a0_1 a0_2) else (impl_turnCube.j0 k a1 a0_0 a0_1 a0_2)) = some (r1, r2, r3) := h
 clear h
 have HC3 := aM H
 clear H
 go_enter Try.func82, Try.ntmps82
 go_upto_if 8 with (first | ((with_reducible refine gate_dst (N := 2) rfl ?_); refine zx 2 #[.int .i64 a0_0, .int .i64 a0_1, .int .i64 a0_2] 43 ?_; intro gb421 hg w4 hbox hb; have n0_ := aM (below_step zb hb); have n1_ := aM (hbox); have n2_ := aM ((ze : w.heap.size ≤ gb421)); have n3_ := aM ((ze : w.heap.size ≤ gb421)); clear HB; have HB := n0_; have BK421 := n1_; have GW421 := n2_; have GE421 := n3_; clear n0_ n1_ n2_ n3_; clear hb hbox hg) | ((with_reducible refine gate_dst (N := 4) rfl ?_); refine zx 4 #[.int .i64 0, .int .i64 0, .int .i64 0] 43 ?_; intro gb422 hg w5 hbox hb; have n0_ := aM (blk_below (g := gb421) (o := .cells #[.int .i64 a0_0, .int .i64 a0_1, .int .i64 a0_2] 43 (0, 0)) (mB_ BK421.out) hb); have n1_ := aM (below_step (zs GE421.out) hb); have n2_ := aM (hbox); have n3_ := aM ((zf GE421.out : w.heap.size ≤ gb422)); have n4_ := aM ((zf GE421.out : w.heap.size ≤ gb422)); have n5_ := aM ((zl BK421.out : gb421 ≠ gb422)); have n6_ := aM ((zn BK421.out : gb422 ≠ gb421)); clear BK421 HB; have BK421 := n0_; have HB := n1_; have BK422 := n2_; have GW422 := n3_; have GE422 := n4_; have NB421_422 := n5_; have NB422_421 := n6_; clear n0_ n1_ n2_ n3_ n4_ n5_ n6_; clear hb hbox hg))
 (try simp only [Act.put, xA, xB, xC])
 go_cut [] (fun wc => ∃ (kq : Nat) (x422000_2 : Int), Aside0 (impl_turnCube.j0 kq a1 x422000_2 a0_1 a0_2 = some (r1, r2, r3)) ∧ Aside0 (kq ≤ k) ∧ Aside0 (wc.heap[gb421]? = some (.cells #[.int .i64 x422000_2, .int .i64 a0_1, .int .i64 a0_2] 43 (0, 0))) ∧ Aside0 (wc.heap[gb422]? = some (.cells #[.int .i64 0, .int .i64 0, .int .i64 0] 43 (0, 0))) ∧ Aside0 (Below w.heap.size w wc))
 case first =>
  have H := HC3.out
  clear HC3
  by_cases c6 : a1 ≥ 24
  rotate_left
  ·rw [if_neg c6] at H
   have c6b0 : decide (24 ≤ a1) = false := decide_eq_false c6
   clear c6
   (first | rw [c6b0] | (simp only [i64_w, i32_w]; rw [c6b0]) | skip)
   have H' := aM H
   clear H
   go_wp2
   go_meet
   case rel => exact ⟨_, (a0_0), H', ⟨by first | omega | exact Nat.le_refl _⟩, ⟨mB_ BK421.out⟩, ⟨mB_ BK422.out⟩, ⟨zt GE421.out GE422.out⟩⟩
  rw [if_pos c6] at H
  have c6b0 : decide (24 ≤ a1) = true := decide_eq_true c6
  clear c6
  (first | rw [c6b0] | (simp only [i64_w, i32_w]; rw [c6b0]) | skip)
  have H' := aM H
  clear H
  have hnb7 := NB421_422.out
  have hnc7 := NB422_421.out
  have hcz8_0 : w5.cell? ⟨gb421, 0, none⟩ = some (.int .i64 a0_0) := (blk_cell BK421.out 0).trans rfl
  have hcz8_1 : w5.cell? ⟨gb421, 1, none⟩ = some (.int .i64 a0_1) := (blk_cell BK421.out 1).trans rfl
  have hcz8_2 : w5.cell? ⟨gb421, 2, none⟩ = some (.int .i64 a0_2) := (blk_cell BK421.out 2).trans rfl
  have hfz8_0 := blk_frozen BK421.out 0
  have hfz8_1 := blk_frozen BK421.out 1
  have hfz8_2 := blk_frozen BK421.out 2
  go_wp2
  go_meet
  case rel => exact ⟨_, (wrap64 (-a0_0)), H', ⟨by first | omega | exact Nat.le_refl _⟩, ⟨by (with_reducible repeat (first | refine blk_drewN ?_ _ | refine blk_drew ?_ | refine blk_alloc ?_ _)); refine blk_put (cs := #[.int .i64 a0_0, .int .i64 a0_1, .int .i64 a0_2]) ?_ 0 _ rfl; (with_reducible repeat (first | refine blk_drewN ?_ _ | refine blk_drew ?_ | refine blk_alloc ?_ _)); exact BK421.out⟩, ⟨by (with_reducible repeat (first | refine blk_drewN ?_ _ | refine blk_drew ?_ | refine blk_alloc ?_ _)); refine blk_far ?_ NB422_421.out _; (with_reducible repeat (first | refine blk_drewN ?_ _ | refine blk_drew ?_ | refine blk_alloc ?_ _)); exact BK422.out⟩, ⟨zt GE421.out GE422.out⟩⟩
 case rest =>
  clear HC3
  try clear p2
  try clear c6
  try clear c6b0
  try clear p6
  try clear c7
  try clear c8
  try clear hcz8_0
  try clear hcz8_1
  try clear hcz8_2
  try clear hfz8_0
  try clear hfz8_1
  try clear hfz8_2
  obtain ⟨kq, x422000_2, HA, HJ2, BK421, BK422, HB⟩ := hcut
  cases kq with
  | zero => exact absurd HA.out (by simp [impl_turnCube.j0])
  | succ kj2 =>
   have H := HA.out
   clear HA
   simp only [impl_turnCube.j0] at H
   have H' := aM H
   clear H
   go_wp2
   go_loopg [15] kj2 (fun kq v15 w' => ∃ (x15_2 : Int) (x422000_2 : Int) (x422001_2 : Int) (x422002_2 : Int), v15 = .int .i64 x15_2 ∧ Aside0 (impl_turnCube.l0 kq a1 (Int.tmod a1 4) x15_2 x422000_2 x422001_2 x422002_2 = some (r1, r2, r3)) ∧ Aside0 (kq ≤ kj2) ∧ Aside0 (w'.heap[gb421]? = some (.cells #[.int .i64 x422000_2, .int .i64 x422001_2, .int .i64 x422002_2] 43 (0, 0))) ∧ Aside0 (w'.heap[gb422]? = some (.cells #[.int .i64 0, .int .i64 0, .int .i64 0] 43 (0, 0))) ∧ Aside0 (Below w.heap.size w w'))
   case atStart => exact ⟨(0), (x422000_2), (a0_1), (a0_2), zr, H', ⟨Nat.le_refl _⟩, ⟨mB_ BK421.out⟩, ⟨mB_ BK422.out⟩, ⟨zt GE421.out GE422.out⟩⟩
   case round =>
    clear H'
    try clear p2
    try clear c6
    try clear c6b0
    try clear p6
    try clear c7
    try clear c8
    try clear hcz8_0
    try clear hcz8_1
    try clear hcz8_2
    try clear hfz8_0
    try clear hfz8_1
    try clear hfz8_2
    try clear p2
    try clear p6
    obtain ⟨x15_2, x422000_2, x422001_2, x422002_2, rfl, HA, HK2, BK421, BK422, HB⟩ := hrel
    cases gk with
    | zero => exact absurd HA.out (by simp [impl_turnCube.l0])
    | succ k2 =>
     have H := HA.out
     clear HA
     simp only [impl_turnCube.l0] at H
     by_cases c9 : x15_2 < (Int.tmod a1 4)
     ·rw [if_pos c9] at H
      have c9b0 : decide (x15_2 < (Int.tmod a1 4)) = true := decide_eq_true c9
      clear c9
      have H' := aM H
      clear H
      have hnb10 := NB421_422.out
      have hnc10 := NB422_421.out
      have hcz11_0 : wr.cell? ⟨gb421, 0, none⟩ = some (.int .i64 x422000_2) := (blk_cell BK421.out 0).trans rfl
      have hcz11_1 : wr.cell? ⟨gb421, 1, none⟩ = some (.int .i64 x422001_2) := (blk_cell BK421.out 1).trans rfl
      have hcz11_2 : wr.cell? ⟨gb421, 2, none⟩ = some (.int .i64 x422002_2) := (blk_cell BK421.out 2).trans rfl
      have hfz11_0 := blk_frozen BK421.out 0
      have hfz11_1 := blk_frozen BK421.out 1
      have hfz11_2 := blk_frozen BK421.out 2
      go_wp2
      go_roundg k2
      case measure => have := HJ2.out; have := HK2.out; omega
      case rel => exact ⟨(wrap64 (x15_2 + 1)), (wrap64 (-x422001_2)), (x422000_2), (x422002_2), zr, H', ⟨by have := HJ2.out; have := HK2.out; omega⟩, ⟨by (with_reducible repeat (first | refine blk_drewN ?_ _ | refine blk_drew ?_ | refine blk_alloc ?_ _)); refine blk_put (cs := #[.int .i64 (wrap64 (-x422001_2)), .int .i64 x422000_2, .int .i64 x422002_2]) ?_ 2 _ rfl; (with_reducible repeat (first | refine blk_drewN ?_ _ | refine blk_drew ?_ | refine blk_alloc ?_ _)); refine blk_put (cs := #[.int .i64 (wrap64 (-x422001_2)), .int .i64 x422001_2, .int .i64 x422002_2]) ?_ 1 _ rfl; (with_reducible repeat (first | refine blk_drewN ?_ _ | refine blk_drew ?_ | refine blk_alloc ?_ _)); refine blk_put (cs := #[.int .i64 x422000_2, .int .i64 x422001_2, .int .i64 x422002_2]) ?_ 0 _ rfl; (with_reducible repeat (first | refine blk_drewN ?_ _ | refine blk_drew ?_ | refine blk_alloc ?_ _)); exact BK421.out⟩, ⟨by (with_reducible repeat (first | refine blk_drewN ?_ _ | refine blk_drew ?_ | refine blk_alloc ?_ _)); refine blk_far ?_ NB422_421.out _; (with_reducible repeat (first | refine blk_drewN ?_ _ | refine blk_drew ?_ | refine blk_alloc ?_ _)); refine blk_far ?_ NB422_421.out _; (with_reducible repeat (first | refine blk_drewN ?_ _ | refine blk_drew ?_ | refine blk_alloc ?_ _)); refine blk_far ?_ NB422_421.out _; (with_reducible repeat (first | refine blk_drewN ?_ _ | refine blk_drew ?_ | refine blk_alloc ?_ _)); exact BK422.out⟩, ⟨zt GE421.out GE422.out⟩⟩
     rw [if_neg c9] at H
     have c9b0 : decide (x15_2 < (Int.tmod a1 4)) = false := decide_eq_false c9
     clear c9
     by_cases c12 : (Int.tmod (wrap64 (Int.tdiv a1 4)) 6) < 4
     ·rw [if_pos c12] at H
      have c12b0 : decide ((Int.tmod (wrap64 (Int.tdiv a1 4)) 6) < 4) = true := decide_eq_true c12
      clear c12
      have H' := aM H
      clear H
      go_wp2
      go_loopg [32] k2 (fun kq v32 w' => ∃ (x32_3 : Int) (x422000_3 : Int) (x422001_3 : Int) (x422002_3 : Int), v32 = .int .i64 x32_3 ∧ Aside0 (impl_turnCube.l1 kq (Int.tmod (wrap64 (Int.tdiv a1 4)) 6) x32_3 x422000_3 x422001_3 x422002_3 = some (r1, r2, r3)) ∧ Aside0 (kq ≤ k2) ∧ Aside0 (w'.heap[gb421]? = some (.cells #[.int .i64 x422000_3, .int .i64 x422001_3, .int .i64 x422002_3] 43 (0, 0))) ∧ Aside0 (w'.heap[gb422]? = some (.cells #[.int .i64 0, .int .i64 0, .int .i64 0] 43 (0, 0))) ∧ Aside0 (Below w.heap.size w w'))
      case atStart => exact ⟨(0), (x422000_2), (x422001_2), (x422002_2), zr, H', ⟨Nat.le_refl _⟩, ⟨mB_ BK421.out⟩, ⟨mB_ BK422.out⟩, ⟨zt GE421.out GE422.out⟩⟩
      case round =>
       clear H'
       try clear c1
       try clear p2
       try clear c6
       try clear c6b0
       try clear p6
       try clear c7
       try clear c8
       try clear c9
       try clear c9b0
       try clear c10
       try clear c12
       try clear c12b0
       try clear hcz11_0
       try clear hcz11_1
       try clear hcz11_2
       try clear hcz8_0
       try clear hcz8_1
       try clear hcz8_2
       try clear hfz11_0
       try clear hfz11_1
       try clear hfz11_2
       try clear hfz8_0
       try clear hfz8_1
       try clear hfz8_2
       try clear p2
       try clear p6
       obtain ⟨x32_3, x422000_3, x422001_3, x422002_3, rfl, HA, HK3, BK421, BK422, HB⟩ := hrel
       cases gk with
       | zero => exact absurd HA.out (by simp [impl_turnCube.l1])
       | succ k3 =>
        have H := HA.out
        clear HA
        simp only [impl_turnCube.l1] at H
        by_cases c13 : x32_3 < (Int.tmod (wrap64 (Int.tdiv a1 4)) 6)
        ·rw [if_pos c13] at H
         have c13b0 : decide (x32_3 < (Int.tmod (wrap64 (Int.tdiv a1 4)) 6)) = true := decide_eq_true c13
         clear c13
         have H' := aM H
         clear H
         have hnb14 := NB421_422.out
         have hnc14 := NB422_421.out
         have hcz15_0 : wr.cell? ⟨gb421, 0, none⟩ = some (.int .i64 x422000_3) := (blk_cell BK421.out 0).trans rfl
         have hcz15_1 : wr.cell? ⟨gb421, 1, none⟩ = some (.int .i64 x422001_3) := (blk_cell BK421.out 1).trans rfl
         have hcz15_2 : wr.cell? ⟨gb421, 2, none⟩ = some (.int .i64 x422002_3) := (blk_cell BK421.out 2).trans rfl
         have hfz15_0 := blk_frozen BK421.out 0
         have hfz15_1 := blk_frozen BK421.out 1
         have hfz15_2 := blk_frozen BK421.out 2
         go_wp2
         go_roundg k3
         case measure => have := HJ2.out; have := HK2.out; have := HK3.out; omega
         case rel => exact ⟨(wrap64 (x32_3 + 1)), (x422000_3), (wrap64 (-x422002_3)), (x422001_3), zr, H', ⟨by have := HJ2.out; have := HK2.out; have := HK3.out; omega⟩, ⟨by (with_reducible repeat (first | refine blk_drewN ?_ _ | refine blk_drew ?_ | refine blk_alloc ?_ _)); refine blk_put (cs := #[.int .i64 x422000_3, .int .i64 (wrap64 (-x422002_3)), .int .i64 x422002_3]) ?_ 2 _ rfl; (with_reducible repeat (first | refine blk_drewN ?_ _ | refine blk_drew ?_ | refine blk_alloc ?_ _)); refine blk_put (cs := #[.int .i64 x422000_3, .int .i64 x422001_3, .int .i64 x422002_3]) ?_ 1 _ rfl; (with_reducible repeat (first | refine blk_drewN ?_ _ | refine blk_drew ?_ | refine blk_alloc ?_ _)); refine blk_put (cs := #[.int .i64 x422000_3, .int .i64 x422001_3, .int .i64 x422002_3]) ?_ 0 _ rfl; (with_reducible repeat (first | refine blk_drewN ?_ _ | refine blk_drew ?_ | refine blk_alloc ?_ _)); exact BK421.out⟩, ⟨by (with_reducible repeat (first | refine blk_drewN ?_ _ | refine blk_drew ?_ | refine blk_alloc ?_ _)); refine blk_far ?_ NB422_421.out _; (with_reducible repeat (first | refine blk_drewN ?_ _ | refine blk_drew ?_ | refine blk_alloc ?_ _)); refine blk_far ?_ NB422_421.out _; (with_reducible repeat (first | refine blk_drewN ?_ _ | refine blk_drew ?_ | refine blk_alloc ?_ _)); refine blk_far ?_ NB422_421.out _; (with_reducible repeat (first | refine blk_drewN ?_ _ | refine blk_drew ?_ | refine blk_alloc ?_ _)); exact BK422.out⟩, ⟨zt GE421.out GE422.out⟩⟩
        rw [if_neg c13] at H
        have c13b0 : decide (x32_3 < (Int.tmod (wrap64 (Int.tdiv a1 4)) 6)) = false := decide_eq_false c13
        clear c13
        simp only [Option.some.injEq, Prod.mk.injEq] at H
        obtain ⟨rfl, rfl, rfl⟩ := H
        have hnb16 := NB421_422.out
        have hnc16 := NB422_421.out
        have hcz17_0 : wr.cell? ⟨gb421, 0, none⟩ = some (.int .i64 x422000_3) := (blk_cell BK421.out 0).trans rfl
        have hcz17_1 : wr.cell? ⟨gb421, 1, none⟩ = some (.int .i64 x422001_3) := (blk_cell BK421.out 1).trans rfl
        have hcz17_2 : wr.cell? ⟨gb421, 2, none⟩ = some (.int .i64 x422002_3) := (blk_cell BK421.out 2).trans rfl
        have hfz17_0 := blk_frozen BK421.out 0
        have hfz17_1 := blk_frozen BK421.out 1
        have hfz17_2 := blk_frozen BK421.out 2
        have hcz18_0 : wr.cell? ⟨gb422, 0, none⟩ = some (.int .i64 0) := (blk_cell BK422.out 0).trans rfl
        have hcz18_1 : wr.cell? ⟨gb422, 1, none⟩ = some (.int .i64 0) := (blk_cell BK422.out 1).trans rfl
        have hcz18_2 : wr.cell? ⟨gb422, 2, none⟩ = some (.int .i64 0) := (blk_cell BK422.out 2).trans rfl
        have hfz18_0 := blk_frozen BK422.out 0
        have hfz18_1 := blk_frozen BK422.out 1
        have hfz18_2 := blk_frozen BK422.out 2
        go_wp2
        refine bodyPost_ret (results_cell_row rfl _ _ gb422 43 #[.int .i64 x422000_3, .int .i64 x422001_3, .int .i64 x422002_3] (0, 0) _ rfl (by (with_reducible repeat (first | refine blk_drewN ?_ _ | refine blk_drew ?_ | refine blk_alloc ?_ _)); refine blk_put (cs := #[.int .i64 x422000_3, .int .i64 x422001_3, .int .i64 0]) ?_ 2 _ rfl; (with_reducible repeat (first | refine blk_drewN ?_ _ | refine blk_drew ?_ | refine blk_alloc ?_ _)); refine blk_put (cs := #[.int .i64 x422000_3, .int .i64 0, .int .i64 0]) ?_ 1 _ rfl; (with_reducible repeat (first | refine blk_drewN ?_ _ | refine blk_drew ?_ | refine blk_alloc ?_ _)); refine blk_put (cs := #[.int .i64 0, .int .i64 0, .int .i64 0]) ?_ 0 _ rfl; (with_reducible repeat (first | refine blk_drewN ?_ _ | refine blk_drew ?_ | refine blk_alloc ?_ _)); exact BK422.out) Try.underlying43 rfl (by kernel_rfl)) rfl ?_
        exact ⟨zw, zt GE421.out GE422.out⟩
     rw [if_neg c12] at H
     have c12b0 : decide ((Int.tmod (wrap64 (Int.tdiv a1 4)) 6) < 4) = false := decide_eq_false c12
     clear c12
     have HC19 := aM H
     clear H
     go_upto_if 45 with (fail)
     go_cut [6] (fun v6 wc => ∃ (kq : Nat) (x6_18 : Int), v6 = .int .i64 x6_18 ∧ Aside0 (impl_turnCube.j3 kq x6_18 x422000_2 x422001_2 x422002_2 = some (r1, r2, r3)) ∧ Aside0 (kq ≤ k2) ∧ Aside0 (wc.heap[gb421]? = some (.cells #[.int .i64 x422000_2, .int .i64 x422001_2, .int .i64 x422002_2] 43 (0, 0))) ∧ Aside0 (wc.heap[gb422]? = some (.cells #[.int .i64 0, .int .i64 0, .int .i64 0] 43 (0, 0))) ∧ Aside0 (Below w.heap.size w wc))
     case first =>
      have H := HC19.out
      clear HC19
      by_cases c20 : (Int.tmod (wrap64 (Int.tdiv a1 4)) 6) = 5
      rotate_left
      ·rw [if_neg c20] at H
       have c20b0 : ((Int.tmod (wrap64 (Int.tdiv a1 4)) 6) == 5) = false := beq_eq_false_iff_ne.mpr c20
       have c20b1 : ((Int.tmod (wrap64 (Int.tdiv a1 4)) 6) != 5) = true := bne_iff_ne.mpr c20
       (first | rw [c20b0] | (simp only [i64_w, i32_w]; rw [c20b0]) | skip)
       have H' := aM H
       clear H
       go_wp2
       go_meet
       case rel => exact ⟨_, (1), zr, H', ⟨by have := HJ2.out; have := HK2.out; first | omega | exact Nat.le_refl _⟩, ⟨mB_ BK421.out⟩, ⟨mB_ BK422.out⟩, ⟨zt GE421.out GE422.out⟩⟩
      rw [if_pos c20] at H
      have c20b0 : ((Int.tmod (wrap64 (Int.tdiv a1 4)) 6) == 5) = true := beq_iff_eq.mpr c20
      have c20b1 : ((Int.tmod (wrap64 (Int.tdiv a1 4)) 6) != 5) = false := bne_eq_false_iff_eq.mpr c20
      clear c20
      (first | rw [c20b0] | (simp only [i64_w, i32_w]; rw [c20b0]) | skip)
      have H' := aM H
      clear H
      go_wp2
      go_meet
      case rel => exact ⟨_, (3), zr, H', ⟨by have := HJ2.out; have := HK2.out; first | omega | exact Nat.le_refl _⟩, ⟨mB_ BK421.out⟩, ⟨mB_ BK422.out⟩, ⟨zt GE421.out GE422.out⟩⟩
     case rest =>
      clear HC19
      try clear c1
      try clear c2
      try clear p2
      try clear c6
      try clear c6b0
      try clear p6
      try clear c7
      try clear c8
      try clear c9
      try clear c9b0
      try clear c10
      try clear c12
      try clear c12b0
      try clear c13
      try clear c13b0
      try clear c14
      try clear c16
      try clear c20
      try clear c20b0
      try clear c20b1
      try clear hcz11_0
      try clear hcz11_1
      try clear hcz11_2
      try clear hcz15_0
      try clear hcz15_1
      try clear hcz15_2
      try clear hcz17_0
      try clear hcz17_1
      try clear hcz17_2
      try clear hcz18_0
      try clear hcz18_1
      try clear hcz18_2
      try clear hcz8_0
      try clear hcz8_1
      try clear hcz8_2
      try clear hfz11_0
      try clear hfz11_1
      try clear hfz11_2
      try clear hfz15_0
      try clear hfz15_1
      try clear hfz15_2
      try clear hfz17_0
      try clear hfz17_1
      try clear hfz17_2
      try clear hfz18_0
      try clear hfz18_1
      try clear hfz18_2
      try clear hfz8_0
      try clear hfz8_1
      try clear hfz8_2
      try clear p2
      try clear p6
      obtain ⟨kq, x6_18, rfl, HA, HJ18, BK421, BK422, HB⟩ := hcut
      cases kq with
      | zero => exact absurd HA.out (by simp [impl_turnCube.j3])
      | succ kj18 =>
       have H := HA.out
       clear HA
       simp only [impl_turnCube.j3] at H
       have H' := aM H
       clear H
       go_wp2
       go_loopg [47] kj18 (fun kq v47 w' => ∃ (x47_4 : Int) (x422000_4 : Int) (x422001_4 : Int) (x422002_4 : Int), v47 = .int .i64 x47_4 ∧ Aside0 (impl_turnCube.l2 kq x6_18 x47_4 x422000_4 x422001_4 x422002_4 = some (r1, r2, r3)) ∧ Aside0 (kq ≤ kj18) ∧ Aside0 (w'.heap[gb421]? = some (.cells #[.int .i64 x422000_4, .int .i64 x422001_4, .int .i64 x422002_4] 43 (0, 0))) ∧ Aside0 (w'.heap[gb422]? = some (.cells #[.int .i64 0, .int .i64 0, .int .i64 0] 43 (0, 0))) ∧ Aside0 (Below w.heap.size w w'))
       case atStart => exact ⟨(0), (x422000_2), (x422001_2), (x422002_2), zr, H', ⟨Nat.le_refl _⟩, ⟨mB_ BK421.out⟩, ⟨mB_ BK422.out⟩, ⟨zt GE421.out GE422.out⟩⟩
       case round =>
        clear H'
        try clear c1
        try clear c2
        try clear p2
        try clear c6
        try clear c6b0
        try clear p6
        try clear c7
        try clear c8
        try clear c9
        try clear c9b0
        try clear c10
        try clear c12
        try clear c12b0
        try clear c13
        try clear c13b0
        try clear c14
        try clear c16
        try clear c20
        try clear c20b0
        try clear c20b1
        try clear hcz11_0
        try clear hcz11_1
        try clear hcz11_2
        try clear hcz15_0
        try clear hcz15_1
        try clear hcz15_2
        try clear hcz17_0
        try clear hcz17_1
        try clear hcz17_2
        try clear hcz18_0
        try clear hcz18_1
        try clear hcz18_2
        try clear hcz8_0
        try clear hcz8_1
        try clear hcz8_2
        try clear hfz11_0
        try clear hfz11_1
        try clear hfz11_2
        try clear hfz15_0
        try clear hfz15_1
        try clear hfz15_2
        try clear hfz17_0
        try clear hfz17_1
        try clear hfz17_2
        try clear hfz18_0
        try clear hfz18_1
        try clear hfz18_2
        try clear hfz8_0
        try clear hfz8_1
        try clear hfz8_2
        try clear p2
        try clear p6
        obtain ⟨x47_4, x422000_4, x422001_4, x422002_4, rfl, HA, HK4, BK421, BK422, HB⟩ := hrel
        cases gk with
        | zero => exact absurd HA.out (by simp [impl_turnCube.l2])
        | succ k4 =>
         have H := HA.out
         clear HA
         simp only [impl_turnCube.l2] at H
         by_cases c21 : x47_4 < x6_18
         ·rw [if_pos c21] at H
          have c21b0 : decide (x47_4 < x6_18) = true := decide_eq_true c21
          clear c21
          have H' := aM H
          clear H
          have hnb22 := NB421_422.out
          have hnc22 := NB422_421.out
          have hcz23_0 : wr.cell? ⟨gb421, 0, none⟩ = some (.int .i64 x422000_4) := (blk_cell BK421.out 0).trans rfl
          have hcz23_1 : wr.cell? ⟨gb421, 1, none⟩ = some (.int .i64 x422001_4) := (blk_cell BK421.out 1).trans rfl
          have hcz23_2 : wr.cell? ⟨gb421, 2, none⟩ = some (.int .i64 x422002_4) := (blk_cell BK421.out 2).trans rfl
          have hfz23_0 := blk_frozen BK421.out 0
          have hfz23_1 := blk_frozen BK421.out 1
          have hfz23_2 := blk_frozen BK421.out 2
          go_wp2
          go_roundg k4
          case measure => have := HJ2.out; have := HK2.out; have := HJ18.out; have := HK4.out; omega
          case rel => exact ⟨(wrap64 (x47_4 + 1)), (x422002_4), (x422001_4), (wrap64 (-x422000_4)), zr, H', ⟨by have := HJ2.out; have := HK2.out; have := HJ18.out; have := HK4.out; omega⟩, ⟨by (with_reducible repeat (first | refine blk_drewN ?_ _ | refine blk_drew ?_ | refine blk_alloc ?_ _)); refine blk_put (cs := #[.int .i64 x422002_4, .int .i64 x422001_4, .int .i64 x422002_4]) ?_ 2 _ rfl; (with_reducible repeat (first | refine blk_drewN ?_ _ | refine blk_drew ?_ | refine blk_alloc ?_ _)); refine blk_put (cs := #[.int .i64 x422002_4, .int .i64 x422001_4, .int .i64 x422002_4]) ?_ 1 _ rfl; (with_reducible repeat (first | refine blk_drewN ?_ _ | refine blk_drew ?_ | refine blk_alloc ?_ _)); refine blk_put (cs := #[.int .i64 x422000_4, .int .i64 x422001_4, .int .i64 x422002_4]) ?_ 0 _ rfl; (with_reducible repeat (first | refine blk_drewN ?_ _ | refine blk_drew ?_ | refine blk_alloc ?_ _)); exact BK421.out⟩, ⟨by (with_reducible repeat (first | refine blk_drewN ?_ _ | refine blk_drew ?_ | refine blk_alloc ?_ _)); refine blk_far ?_ NB422_421.out _; (with_reducible repeat (first | refine blk_drewN ?_ _ | refine blk_drew ?_ | refine blk_alloc ?_ _)); refine blk_far ?_ NB422_421.out _; (with_reducible repeat (first | refine blk_drewN ?_ _ | refine blk_drew ?_ | refine blk_alloc ?_ _)); refine blk_far ?_ NB422_421.out _; (with_reducible repeat (first | refine blk_drewN ?_ _ | refine blk_drew ?_ | refine blk_alloc ?_ _)); exact BK422.out⟩, ⟨zt GE421.out GE422.out⟩⟩
         rw [if_neg c21] at H
         have c21b0 : decide (x47_4 < x6_18) = false := decide_eq_false c21
         clear c21
         simp only [Option.some.injEq, Prod.mk.injEq] at H
         obtain ⟨rfl, rfl, rfl⟩ := H
         have hnb24 := NB421_422.out
         have hnc24 := NB422_421.out
         have hcz25_0 : wr.cell? ⟨gb421, 0, none⟩ = some (.int .i64 x422000_4) := (blk_cell BK421.out 0).trans rfl
         have hcz25_1 : wr.cell? ⟨gb421, 1, none⟩ = some (.int .i64 x422001_4) := (blk_cell BK421.out 1).trans rfl
         have hcz25_2 : wr.cell? ⟨gb421, 2, none⟩ = some (.int .i64 x422002_4) := (blk_cell BK421.out 2).trans rfl
         have hfz25_0 := blk_frozen BK421.out 0
         have hfz25_1 := blk_frozen BK421.out 1
         have hfz25_2 := blk_frozen BK421.out 2
         have hcz26_0 : wr.cell? ⟨gb422, 0, none⟩ = some (.int .i64 0) := (blk_cell BK422.out 0).trans rfl
         have hcz26_1 : wr.cell? ⟨gb422, 1, none⟩ = some (.int .i64 0) := (blk_cell BK422.out 1).trans rfl
         have hcz26_2 : wr.cell? ⟨gb422, 2, none⟩ = some (.int .i64 0) := (blk_cell BK422.out 2).trans rfl
         have hfz26_0 := blk_frozen BK422.out 0
         have hfz26_1 := blk_frozen BK422.out 1
         have hfz26_2 := blk_frozen BK422.out 2
         go_wp2
         refine bodyPost_ret (results_cell_row rfl _ _ gb422 43 #[.int .i64 x422000_4, .int .i64 x422001_4, .int .i64 x422002_4] (0, 0) _ rfl (by (with_reducible repeat (first | refine blk_drewN ?_ _ | refine blk_drew ?_ | refine blk_alloc ?_ _)); refine blk_put (cs := #[.int .i64 x422000_4, .int .i64 x422001_4, .int .i64 0]) ?_ 2 _ rfl; (with_reducible repeat (first | refine blk_drewN ?_ _ | refine blk_drew ?_ | refine blk_alloc ?_ _)); refine blk_put (cs := #[.int .i64 x422000_4, .int .i64 0, .int .i64 0]) ?_ 1 _ rfl; (with_reducible repeat (first | refine blk_drewN ?_ _ | refine blk_drew ?_ | refine blk_alloc ?_ _)); refine blk_put (cs := #[.int .i64 0, .int .i64 0, .int .i64 0]) ?_ 0 _ rfl; (with_reducible repeat (first | refine blk_drewN ?_ _ | refine blk_drew ?_ | refine blk_alloc ?_ _)); exact BK422.out) Try.underlying43 rfl (by kernel_rfl)) rfl ?_
         exact ⟨zw, zt GE421.out GE422.out⟩
def impl_cubeForm.l0 : Nat → Int → List (S43) → List (S43) → Int → Int → Option ((List (S43)))
 | 0, _, _, _, _, _ => none
 | k + 1, x1, x5, x11, x12, x13 => if x13 < x12 then (if 0 ≤ x13 then (if x13 < (x11.length : Int) then ((impl_turnCube.f k ((rd_T43 x11 x13).f0) ((rd_T43 x11 x13).f1) ((rd_T43 x11 x13).f2) x1).bind fun bt428 => (if x5.length < 5864062014805 then (impl_cubeForm.l0 k x1 (x5 ++ [(⟨bt428.1, bt428.2.1, bt428.2.2⟩ : S43)]) x11 x12 (wrap64 (x13 + 1))) else (none))) else (none)) else (none)) else ((impl_Cube_37__impl_compareCubes.f x5).bind fun t434 => ((impl_normalCubes.f k t434).bind fun t435 => (some t435)))
def impl_cubeForm.f (k : Nat) (l0 : List (S43)) (a1 : Int) : Option ((List (S43))) := if 0 ≤ (l0.length : Int) then (if ((l0.length : Int) : Int).toNat ≤ 11728124029610 then (impl_cubeForm.l0 k a1 (([] : List (S43))) l0 (l0.length : Int) 0) else (none)) else (none)
end Go.Proofs.Ytlompfboheiliaa.F
end
