/- The row of FnSolidTotals, with what it needs: text 8 of 12. -/
import Derived.Test.YtlompfboheiliaaKST6
set_option maxHeartbeats 8000000
set_option maxRecDepth 100000
section
namespace Go.Proofs.Ytlompfboheiliaa.F
open Go.RowKit Go.Proofs.YtlompfboheiliaaW.PrintWords Go.Proofs.YtlompfboheiliaaW.PrintLast Go.Proofs.YtlompfboheiliaaW.PrintMore
attribute [local go_sem] max2_int min2_int max_two min_two max_three min_three max_four min_four
set_option linter.unusedVariables false
set_option linter.unusedSimpArgs false
theorem impl_compareCubes.callsG (a0_0 : Int) (a0_1 : Int) (a0_2 : Int) (a1_0 : Int) (a1_1 : Int) (a1_2 : Int) (r : Int) (w : World) (h : impl_compareCubes.f a0_0 a0_1 a0_2 a1_0 a1_1 a1_2 = some r) :
  Calls Try.prog 38 #[.agg #[.int .i64 a0_0, .int .i64 a0_1, .int .i64 a0_2], .agg #[.int .i64 a1_0, .int .i64 a1_1, .int .i64 a1_2]] w fun e w' => e = .returned (.int .i64 r) ∧ BelG w.heap.size w w' := by
 have hu43 := Try.underlying43
 have hu73 := Try.underlying73
 have HB := aM (BelG.refl w.heap.size w)
 have H : ((cmp_Compare_int64.f a0_2 a1_2).bind fun t366 => (if t366 = 0 then ((impl_compareCells.f a0_0 a0_1 a1_0 a1_1).bind fun t367 => (some t367)) else (some t366))) = some r := h
 clear h
 replace H := Option.bind_eq_some_iff.mp H
 obtain ⟨t366, A30, H⟩ := H
 replace H : (if t366 = 0 then ((impl_compareCells.f a0_0 a0_1 a1_0 a1_1).bind fun t367 => (some t367)) else (some t366)) = some r := H
 have A3 := aM A30
 clear A30
 by_cases c4 : t366 = 0
 rotate_left
 ·rw [if_neg c4] at H
  have c4b0 : (t366 == 0) = false := beq_eq_false_iff_ne.mpr c4
  have c4b1 : (t366 != 0) = true := bne_iff_ne.mpr c4
  obtain rfl := Option.some.inj H
  go_enter Try.func38, Try.ntmps38
  go_wp2_with (first | ((with_reducible refine gate_dst (N := 2) rfl ?_); refine box_eventD ?hg (N := 2) ?hd (cs := #[.int .i64 a0_0, .int .i64 a0_1, .int .i64 a0_2]) (t := 43) ?hr ?_; (case hd => rfl); (case hg => rfl); (case hr => first | (go_simp; done) | (go_simp; rfl)); intro gb364 hg w12 hbox hb; have n0_ := aM (belG_step zg hb); have n1_ := aM (hbox); have n2_ := aM ((zi : w.heap.size ≤ gb364)); have n3_ := aM ((zi : w.heap.size ≤ gb364)); clear HB; have HB := n0_; have BK364 := n1_; have GW364 := n2_; have GE364 := n3_; clear n0_ n1_ n2_ n3_; clear hb hbox hg) | ((with_reducible refine gate_dst (N := 3) rfl ?_); refine box_eventD ?hg (N := 3) ?hd (cs := #[.int .i64 a1_0, .int .i64 a1_1, .int .i64 a1_2]) (t := 43) ?hr ?_; (case hd => rfl); (case hg => rfl); (case hr => first | (go_simp; done) | (go_simp; rfl)); intro gb365 hg w13 hbox hb; have n0_ := aM (blk_belG (g := gb364) (o := .cells #[.int .i64 a0_0, .int .i64 a0_1, .int .i64 a0_2] 43 (0, 0)) (mB_ BK364.out) hb); have n1_ := aM (belG_step (zh GE364.out) hb); have n2_ := aM (hbox); have n3_ := aM ((zj GE364.out : w.heap.size ≤ gb365)); have n4_ := aM ((zj GE364.out : w.heap.size ≤ gb365)); have n5_ := aM ((zl BK364.out : gb364 ≠ gb365)); have n6_ := aM ((zn BK364.out : gb365 ≠ gb364)); clear BK364 HB; have BK364 := n0_; have HB := n1_; have BK365 := n2_; have GW365 := n3_; have GE365 := n4_; have NB364_365 := n5_; have NB365_364 := n6_; clear n0_ n1_ n2_ n3_ n4_ n5_ n6_ hb hbox hg; have hnb14 := NB364_365.out; have hnc14 := NB365_364.out; have hcz15_0 : w13.cell? ⟨gb364, 0, none⟩ = some (.int .i64 a0_0) := (blk_cell BK364.out 0).trans rfl; have hcz15_1 : w13.cell? ⟨gb364, 1, none⟩ = some (.int .i64 a0_1) := (blk_cell BK364.out 1).trans rfl; have hcz15_2 : w13.cell? ⟨gb364, 2, none⟩ = some (.int .i64 a0_2) := (blk_cell BK364.out 2).trans rfl; have hfz15_0 := blk_frozen BK364.out 0; have hfz15_1 := blk_frozen BK364.out 1; have hfz15_2 := blk_frozen BK364.out 2; have hcz16_0 : w13.cell? ⟨gb365, 0, none⟩ = some (.int .i64 a1_0) := (blk_cell BK365.out 0).trans rfl; have hcz16_1 : w13.cell? ⟨gb365, 1, none⟩ = some (.int .i64 a1_1) := (blk_cell BK365.out 1).trans rfl; have hcz16_2 : w13.cell? ⟨gb365, 2, none⟩ = some (.int .i64 a1_2) := (blk_cell BK365.out 2).trans rfl; have hfz16_0 := blk_frozen BK365.out 0; have hfz16_1 := blk_frozen BK365.out 1; have hfz16_2 := blk_frozen BK365.out 2) | ((with_reducible refine gate_callee (f := 55) rfl ?_); refine goesL_ (some 10) rfl rfl Try.func55 (by kernel_rfl) rfl #[.int .i64 a0_2, .int .i64 a1_2] rfl zm ?_; (with_reducible refine (cmp_Compare_int64.calls a0_2 a1_2 t366 _ A3.out).mono ?_); rintro e w' ⟨rfl, ⟨nd, rfl⟩⟩; refine ⟨_, rfl, ?_⟩))
  go_ret
  exact ⟨zw, by repeat (first | (with_reducible first | exact HB.out | apply belG_alloc | apply pw_belG_drewN | apply belG_drew1 | refine belG_set ?_ GE364.out | refine belG_set ?_ GE365.out) | exact HB.out)⟩
 rw [if_pos c4] at H
 have c4b0 : (t366 == 0) = true := beq_iff_eq.mpr c4
 have c4b1 : (t366 != 0) = false := bne_eq_false_iff_eq.mpr c4
 clear c4
 replace H := Option.bind_eq_some_iff.mp H
 obtain ⟨t367, A50, H⟩ := H
 replace H : (some t367) = some r := H
 have A5 := aM A50
 clear A50
 obtain rfl := Option.some.inj H
 go_enter Try.func38, Try.ntmps38
 go_wp2_with (first | ((with_reducible refine gate_dst (N := 2) rfl ?_); refine box_eventD ?hg (N := 2) ?hd (cs := #[.int .i64 a0_0, .int .i64 a0_1, .int .i64 a0_2]) (t := 43) ?hr ?_; (case hd => rfl); (case hg => rfl); (case hr => first | (go_simp; done) | (go_simp; rfl)); intro gb364 hg w6 hbox hb; have n0_ := aM (belG_step zg hb); have n1_ := aM (hbox); have n2_ := aM ((zi : w.heap.size ≤ gb364)); have n3_ := aM ((zi : w.heap.size ≤ gb364)); clear HB; have HB := n0_; have BK364 := n1_; have GW364 := n2_; have GE364 := n3_; clear n0_ n1_ n2_ n3_; clear hb hbox hg) | ((with_reducible refine gate_dst (N := 3) rfl ?_); refine box_eventD ?hg (N := 3) ?hd (cs := #[.int .i64 a1_0, .int .i64 a1_1, .int .i64 a1_2]) (t := 43) ?hr ?_; (case hd => rfl); (case hg => rfl); (case hr => first | (go_simp; done) | (go_simp; rfl)); intro gb365 hg w7 hbox hb; have n0_ := aM (blk_belG (g := gb364) (o := .cells #[.int .i64 a0_0, .int .i64 a0_1, .int .i64 a0_2] 43 (0, 0)) (mB_ BK364.out) hb); have n1_ := aM (belG_step (zh GE364.out) hb); have n2_ := aM (hbox); have n3_ := aM ((zj GE364.out : w.heap.size ≤ gb365)); have n4_ := aM ((zj GE364.out : w.heap.size ≤ gb365)); have n5_ := aM ((zl BK364.out : gb364 ≠ gb365)); have n6_ := aM ((zn BK364.out : gb365 ≠ gb364)); clear BK364 HB; have BK364 := n0_; have HB := n1_; have BK365 := n2_; have GW365 := n3_; have GE365 := n4_; have NB364_365 := n5_; have NB365_364 := n6_; clear n0_ n1_ n2_ n3_ n4_ n5_ n6_ hb hbox hg; have hnb8 := NB364_365.out; have hnc8 := NB365_364.out; have hcz9_0 : w7.cell? ⟨gb364, 0, none⟩ = some (.int .i64 a0_0) := (blk_cell BK364.out 0).trans rfl; have hcz9_1 : w7.cell? ⟨gb364, 1, none⟩ = some (.int .i64 a0_1) := (blk_cell BK364.out 1).trans rfl; have hcz9_2 : w7.cell? ⟨gb364, 2, none⟩ = some (.int .i64 a0_2) := (blk_cell BK364.out 2).trans rfl; have hfz9_0 := blk_frozen BK364.out 0; have hfz9_1 := blk_frozen BK364.out 1; have hfz9_2 := blk_frozen BK364.out 2; have hcz10_0 : w7.cell? ⟨gb365, 0, none⟩ = some (.int .i64 a1_0) := (blk_cell BK365.out 0).trans rfl; have hcz10_1 : w7.cell? ⟨gb365, 1, none⟩ = some (.int .i64 a1_1) := (blk_cell BK365.out 1).trans rfl; have hcz10_2 : w7.cell? ⟨gb365, 2, none⟩ = some (.int .i64 a1_2) := (blk_cell BK365.out 2).trans rfl; have hfz10_0 := blk_frozen BK365.out 0; have hfz10_1 := blk_frozen BK365.out 1; have hfz10_2 := blk_frozen BK365.out 2) | ((with_reducible refine gate_callee (f := 55) rfl ?_); refine goesL_ (some 10) rfl rfl Try.func55 (by kernel_rfl) rfl #[.int .i64 a0_2, .int .i64 a1_2] rfl zm ?_; (with_reducible refine (cmp_Compare_int64.calls a0_2 a1_2 t366 _ A3.out).mono ?_); rintro e w' ⟨rfl, ⟨nd, rfl⟩⟩; refine ⟨_, rfl, ?_⟩) | ((with_reducible refine gate_callee (f := 56) rfl ?_); refine goesL_ (some 24) rfl rfl Try.func56 (by kernel_rfl) rfl #[.agg #[.int .i64 a0_0, .int .i64 a0_1], .agg #[.int .i64 a1_0, .int .i64 a1_1]] rfl zm ?_; (with_reducible refine (impl_compareCells.callsG a0_0 a0_1 a1_0 a1_1 t367 _ A5.out).mono ?_); rintro e w11 ⟨rfl, hb⟩; refine ⟨_, rfl, ?_⟩; have n0_ := aM (blk_belG (g := gb364) (o := .cells #[.int .i64 a0_0, .int .i64 a0_1, .int .i64 a0_2] 43 (0, 0)) (mB_ BK364.out) hb); have n1_ := aM (blk_belG (g := gb365) (o := .cells #[.int .i64 a1_0, .int .i64 a1_1, .int .i64 a1_2] 43 (0, 0)) (mB_ BK365.out) hb); have n2_ := aM (belG_step (by repeat (first | (with_reducible first | exact HB.out | apply belG_alloc | apply pw_belG_drewN | apply belG_drew1 | refine belG_set ?_ GE364.out | refine belG_set ?_ GE365.out) | exact HB.out)) hb); clear BK364 BK365 HB; have BK364 := n0_; have BK365 := n1_; have HB := n2_; clear n0_ n1_ n2_; (try clear hb); (try clear hb2); (try clear hk); (try clear hi)))
 go_ret
 exact ⟨zw, by repeat (first | (with_reducible first | exact HB.out | apply belG_alloc | apply pw_belG_drewN | apply belG_drew1 | refine belG_set ?_ GE364.out | refine belG_set ?_ GE365.out) | exact HB.out)⟩
def sortC_lays_ren : Go.Shelf.Ren := ⟨fun | 6 => 37 | 15 => 54 | 14 => 53 | 28 => 70 | 29 => 71 | 20 => 62 | 21 => 63 | 22 => 64 | 23 => 65 | 24 => 66 | 25 => 67 | 26 => 68 | 27 => 69 | 46 => 83 | 47 => 84 | 48 => 85 | 49 => 86 | 50 => 87 | 57 => 91 | n => n, fun | 22 => 40 | 24 => 43 | 25 => 55 | 3 => 3 | 39 => 69 | 0 => 0 | 53 => 89 | 55 => 91 | 4 => 4 | 46 => 82 | 45 => 81 | 50 => 86 | 5 => 5 | 9 => 9 | 66 => 98 | 70 => 102 | 76 => 106 | 77 => 107 | n => n, fun n => n⟩
theorem sortC_lays : SlLaysF0.n6 Try.prog sortC_lays_ren where
  mixed := by kernel_rfl
  f6 := ⟨Try.f37.name, by kernel_rfl, Try.func37.trans (congrArg some (by kernel_rfl))⟩
  f14 := ⟨Try.f53.name, by kernel_rfl, Try.func53.trans (congrArg some (by kernel_rfl))⟩
  f15 := Try.func54.trans (congrArg some (by kernel_rfl))
  f20 := ⟨Try.f62.name, by kernel_rfl, Try.func62.trans (congrArg some (by kernel_rfl))⟩
  f21 := ⟨Try.f63.name, by kernel_rfl, Try.func63.trans (congrArg some (by kernel_rfl))⟩
  f22 := ⟨Try.f64.name, by kernel_rfl, Try.func64.trans (congrArg some (by kernel_rfl))⟩
  f23 := ⟨Try.f65.name, by kernel_rfl, Try.func65.trans (congrArg some (by kernel_rfl))⟩
  f24 := ⟨Try.f66.name, by kernel_rfl, Try.func66.trans (congrArg some (by kernel_rfl))⟩
  f25 := ⟨Try.f67.name, by kernel_rfl, Try.func67.trans (congrArg some (by kernel_rfl))⟩
  f26 := ⟨Try.f68.name, by kernel_rfl, Try.func68.trans (congrArg some (by kernel_rfl))⟩
  f27 := ⟨Try.f69.name, by kernel_rfl, Try.func69.trans (congrArg some (by kernel_rfl))⟩
  f28 := Try.func70.trans (congrArg some (by kernel_rfl))
  f29 := Try.func71.trans (congrArg some (by kernel_rfl))
  f46 := ⟨Try.f83.name, by kernel_rfl, Try.func83.trans (congrArg some (by kernel_rfl))⟩
  f47 := Try.func84.trans (congrArg some (by kernel_rfl))
  f48 := Try.func85.trans (congrArg some (by kernel_rfl))
  f49 := ⟨Try.f86.name, by kernel_rfl, Try.func86.trans (congrArg some (by kernel_rfl))⟩
  f50 := ⟨Try.f87.name, by kernel_rfl, Try.func87.trans (congrArg some (by kernel_rfl))⟩
  f57 := ⟨Try.f91.name, by kernel_rfl, Try.func91.trans (congrArg some (by kernel_rfl))⟩
  t0 := Try.underlying0
  a0 := Try.isAgg0
  z0 := Try.sizeOf0
  v0 := Try.zeroValue0
  t3 := Try.underlying3
  a3 := Try.isAgg3
  z3 := Try.sizeOf3
  v3 := Try.zeroValue3
  t4 := Try.underlying4
  a4 := Try.isAgg4
  z4 := Try.sizeOf4
  v4 := Try.zeroValue4
  t5 := Try.underlying5
  a5 := Try.isAgg5
  z5 := Try.sizeOf5
  v5 := Try.zeroValue5
  t9 := Try.underlying9
  a9 := Try.isAgg9
  z9 := Try.sizeOf9
  v9 := Try.zeroValue9
  t22 := Try.underlying40
  a22 := Try.isAgg40
  z22 := Try.sizeOf40
  v22 := Try.zeroValue40
  t25 := Try.underlying55
  a25 := Try.isAgg55
  z25 := Try.sizeOf55
  v25 := Try.zeroValue55
  t39 := Try.underlying69
  a39 := Try.isAgg69
  z39 := Try.sizeOf69
  v39 := Try.zeroValue69
  t45 := Try.underlying81
  a45 := Try.isAgg81
  z45 := Try.sizeOf81
  v45 := Try.zeroValue81
  t46 := Try.underlying82
  a46 := Try.isAgg82
  z46 := Try.sizeOf82
  v46 := Try.zeroValue82
  t50 := Try.underlying86
  a50 := Try.isAgg86
  z50 := Try.sizeOf86
  v50 := Try.zeroValue86
  t53 := Try.underlying89
  a53 := Try.isAgg89
  z53 := Try.sizeOf89
  v53 := Try.zeroValue89
  t55 := Try.underlying91
  a55 := Try.isAgg91
  z55 := Try.sizeOf91
  v55 := Try.zeroValue91
  t66 := Try.underlying98
  a66 := Try.isAgg98
  z66 := Try.sizeOf98
  v66 := Try.zeroValue98
  t70 := Try.underlying102
  a70 := Try.isAgg102
  z70 := Try.sizeOf102
  v70 := Try.zeroValue102
  t76 := Try.underlying106
  a76 := Try.isAgg106
  z76 := Try.sizeOf106
  v76 := Try.zeroValue106
  t77 := Try.underlying107
  a77 := Try.isAgg107
  z77 := Try.sizeOf107
  v77 := Try.zeroValue107
def cI (a b : Int) : Int := if a < b then -1 else if a > b then 1 else 0
def cmpV (x y : S43) : Int := if cI x.f2 y.f2 = 0 then (if cI x.f1 y.f1 = 0 then cI x.f0 y.f0 else cI x.f1 y.f1) else cI x.f2 y.f2
open Go.Sort
instance instSortC : Inhabited S43 := ⟨z43⟩
abbrev encC (x : S43) : List Value := [.int .i64 x.f0, .int .i64 x.f1, .int .i64 x.f2]
theorem putRow_heap (w : World) (g : Nat) (F : Array Value) {cur : Array Value} {e : TypeId} {fr : Nat × Nat} (h : w.heap[g]? = some (.cells cur e fr)) : (Go.Sort.putRow id w g 0 F).heap[g]? = some (.cells (Go.Sort.putCells id 0 F cur) e fr) := by
  unfold Go.Sort.putRow Go.Sort.mapBlock
  rw [Array.getElem?_modify, if_pos rfl, h]
  rfl
theorem putCells_take (F cur : Array Value) (h : F.size ≤ cur.size) : (Go.Sort.putCells id 0 F cur).toList.take F.size = F.toList := by
  apply List.ext_getElem?
  intro i
  by_cases hi : i < F.size
  · rw [List.getElem?_take_of_lt hi]
    simp only [Go.Sort.putCells, Array.getElem?_toList, Array.getElem?_mapIdx]
    rw [Array.getElem?_eq_getElem (show i < cur.size by omega), Array.getElem?_eq_getElem hi, Option.map_some, if_pos (by omega)]
    simp [getElem!_pos F i hi]
  · rw [List.getElem?_eq_none (by simp; omega), List.getElem?_eq_none (by simp; omega)]
theorem own_put {w : World} {base g cap n size : Nat} {e : TypeId} {xs : List Value} (h : w.ownsRow base e size (.slice (some ⟨g, 0, none⟩) n cap) n xs) (F : Array Value) (hF : F.size = n * size) : (Go.Sort.putRow id w g 0 F).ownsRow base e size (.slice (some ⟨g, 0, none⟩) n cap) n F.toList := by
  obtain ⟨h1, h2⟩ := h
  refine ⟨by simpa using hF, ?_⟩
  rcases h2 with ⟨h2, _⟩ | ⟨g', cap', cur, h2, h3, h4, h5, h6, h7, h8⟩
  · cases h2
  · injection h2 with h2 _ h9
    injection h2 with h2
    injection h2 with h2
    subst h2 h9
    refine .inr ⟨g, cap, _, rfl, h3, putRow_heap w g F h4, h5, h6, by simpa [Go.Sort.putCells] using h7, ?_⟩
    rw [← hF]
    exact putCells_take F cur (by rw [hF, h7]; exact Nat.mul_le_mul_right _ h5)
theorem flat_get (d : Array S43) (t : Nat) (ht : t < d.size * 3) : (flatK encC 3 d).toList[t]? = (encC d[t / 3]!)[t % 3]? := by
  have hs : (flatK encC 3 d).size = d.size * 3 := size_flatK _ _ _
  have h := get_flatK encC 3 d t ht
  have ht' : t < (flatK encC 3 d).size := by rw [hs]; exact ht
  rw [Array.getElem?_toList, Array.getElem?_eq_getElem ht', ← getElem!_pos (flatK encC 3 d) t ht', h]
  have hm : t % 3 < (encC d[t / 3]!).length := Nat.mod_lt _ (by decide)
  rw [List.getElem?_eq_getElem hm, getElem!_pos (encC d[t / 3]!) (t % 3) hm]
theorem flat_reps (d : Array S43) (w : World) (base : Nat) (ok : Nat → Prop) : Reps (k43.M w base ok) 3 d.toList (flatK encC 3 d).toList := by
  refine ⟨by simp, fun j p hp => ?_⟩
  have hj : j < d.size := by
    have := List.getElem?_eq_some_iff.1 hp
    obtain ⟨h, _⟩ := this
    simpa using h
  have e : ((flatK encC 3 d).toList.drop (j * 3)).take 3 = encC p := by
    apply List.ext_getElem?
    intro i
    by_cases hi : i < 3
    · rw [List.getElem?_take_of_lt hi, List.getElem?_drop, flat_get d (j * 3 + i) (by omega)]
      have e1 : (j * 3 + i) / 3 = j := by omega
      have e2 : (j * 3 + i) % 3 = i := by omega
      rw [e1, e2]
      have e3 : d[j]! = p := by
        rw [getElem!_pos d j hj]
        rw [Array.getElem?_toList, Array.getElem?_eq_getElem hj] at hp
        exact Option.some.inj hp
      rw [e3]
    · rw [List.getElem?_eq_none (by simp; omega), List.getElem?_eq_none (by simp; omega)]
  rw [e]
  exact ⟨_, _, rfl, rfl, _, _, rfl, rfl, rfl⟩
theorem R_putK {w : World} {base g cap : Nat} {ok : Nat → Prop} {xs : List S43} (h : Kd.R k43 43 w base ok (.slice (some ⟨g, 0, none⟩) xs.length cap) xs) (d : Array S43) (hd : d.size = xs.length) : Kd.R k43 43 (putRowK encC 3 w g 0 d) base ok (.slice (some ⟨g, 0, none⟩) xs.length cap) d.toList := by
  obtain ⟨h1, inner, h2, h3⟩ := h
  have hl : d.toList.length = xs.length := by simpa using hd
  refine ⟨h1, (flatK encC 3 d).toList, ?_, flat_reps d _ _ _⟩
  rw [hl]
  exact own_put h2 _ (by rw [size_flatK, hd]; rfl)
theorem R_holds {w : World} {base g cap : Nat} {ok : Nat → Prop} {xs : List S43} (h : Kd.R k43 43 w base ok (.slice (some ⟨g, 0, none⟩) xs.length cap) xs) : HoldsK encC 3 w g 0 xs.toArray := by
  obtain ⟨h1, inner, ⟨h2, h3⟩, h4, h5⟩ := h
  rcases h3 with ⟨h3, _⟩ | ⟨g', cap', cur, h3, h6, h7, h8, h9, h10, h11⟩
  · cases h3
  · injection h3 with h3 _ h12
    injection h3 with h3
    injection h3 with h3
    subst h3 h12
    intro t ht
    rw [size_flatK] at ht
    have ht2 : t < xs.length * 3 := by simpa using ht
    refine ⟨?_, by rw [Nat.zero_add]; exact blk_frozen h7 t⟩
    rw [Nat.zero_add, blk_cell h7 t]
    have e1 : cur[t]? = inner[t]? := by
      rw [← h11, List.getElem?_take_of_lt (by exact ht2), Array.getElem?_toList]
    have hj : t / 3 < xs.length := by omega
    obtain ⟨c1, c4, hc, hc1, c2, c3, hc4, hc2, hc3⟩ := h5 (t / 3) xs[t / 3] (List.getElem?_eq_getElem hj)
    have e2 : inner[t]? = (encC xs[t / 3])[t % 3]? := by
      have e3 : ((inner.drop (t / 3 * 3)).take 3)[t % 3]? = inner[t]? := by
        rw [List.getElem?_take_of_lt (Nat.mod_lt _ (by decide)), List.getElem?_drop]
        congr 1
        omega
      rw [← e3]
      have : (inner.drop (t / 3 * 3)).take 3 = encC xs[t / 3] := by
        refine hc.trans ?_
        rw [hc4, show c1 = [.int .i64 (xs[t / 3]).f0] from hc1, show c2 = [.int .i64 (xs[t / 3]).f1] from hc2, show c3 = [.int .i64 (xs[t / 3]).f2] from hc3]
        rfl
      rw [this]
    have ht' : t < (flatK encC 3 xs.toArray).size := by rw [size_flatK]; exact ht
    have e4 := flat_get xs.toArray t ht
    rw [Array.getElem?_toList, Array.getElem?_eq_getElem ht'] at e4
    rw [e1, e2]
    have e5 : xs.toArray[t / 3]! = xs[t / 3] := by rw [getElem!_pos xs.toArray (t / 3) (by simpa using hj)]; simp
    rw [e5] at e4
    rw [← e4, getElem!_pos _ t ht']
    rfl
theorem cI_eq (a b : Int) : cmp_Compare_int64.f a b = some (cI a b) := by
  unfold cmp_Compare_int64.f cmp_isNaN_int64.f cI
  simp only [bne_self_eq_false, Option.bind_some, Bool.false_eq_true, if_false]
  split
  · rfl
  · split <;> rfl
theorem cmpV_eq (x y : S43) : impl_compareCubes.f x.f0 x.f1 x.f2 y.f0 y.f1 y.f2 = some (cmpV x y) := by
  unfold impl_compareCubes.f impl_compareCells.f cmpV
  simp only [cI_eq, Option.bind_some]
  split
  · split <;> rfl
  · rfl
theorem ltV (x y : S43) : ltOf cmpV x y = decide (x.f2 < y.f2 ∨ x.f2 = y.f2 ∧ (x.f1 < y.f1 ∨ x.f1 = y.f1 ∧ x.f0 < y.f0)) := by
  unfold ltOf cmpV cI
  rw [Bool.eq_iff_iff]
  rw [decide_eq_true_eq (p := x.f2 < y.f2 ∨ x.f2 = y.f2 ∧ (x.f1 < y.f1 ∨ x.f1 = y.f1 ∧ x.f0 < y.f0))]
  constructor
  · intro h
    rw [decide_eq_true_eq] at h
    repeat' split at h
    all_goals omega
  · intro h
    rw [decide_eq_true_eq]
    repeat' split
    all_goals omega
theorem swoV : SWO (ltOf cmpV) where
  irrefl x := by rw [ltV]; simp
  trans x y z h1 h2 := by
    rw [ltV] at *
    simp only [decide_eq_true_eq] at *
    omega
  ntrans x y z h1 h2 := by
    rw [ltV] at *
    simp only [decide_eq_false_iff_not] at *
    omega
theorem antiV (x y : S43) (h1 : ltOf cmpV x y = false) (h2 : ltOf cmpV y x = false) : x = y := by
  rw [ltV] at *
  simp only [decide_eq_false_iff_not] at *
  obtain ⟨a, b, a3⟩ := x
  obtain ⟨c, d, c3⟩ := y
  simp only [S43.mk.injEq]
  simp only at h1 h2
  omega
def sortC (l : List S43) : List S43 := l.mergeSort fun x y => !ltOf cmpV y x
theorem sortW_grown (w : World) (g n : Nat) (d : Array S43) (os : Array Obj) : w.grownBy (sortWorldK encC 3 w g 0 n d os) (some g) := by
  refine ⟨rfl, rfl, rfl, ?_, fun k hk hne => ?_⟩
  · show w.heap.size ≤ ((w.heap.modify g _) ++ os).size
    simp
  · show ((w.heap.modify g _) ++ os)[k]? = w.heap[k]?
    rw [Array.getElem?_append_left (by simpa using hk), Array.getElem?_modify, if_neg]
    intro e
    exact hne (by rw [e])
theorem R_growO {w : World} {base : Nat} {ok : Nat → Prop} {v : Value} {xs : List S43} (h : Kd.R k43 43 w base ok v xs) (os : Array Obj) : Kd.R k43 43 (grow w os) base ok v xs := by
  refine Kd.R_mono (Kd.R_move (Kd.R_bound h) (fun k hk => ?_)) (fun _ hk => hk.1)
  show (w.heap ++ os)[k]? = w.heap[k]?
  rw [Array.getElem?_append_left hk.2.2.1]
def impl_Cube_37__impl_compareCubes.f (l0 : List S43) : Option (List S43) := if 0 < l0.length ∧ l0.length < 4611686018427387904 then some (sortC l0) else none
set_option maxHeartbeats 4000000 in
theorem impl_Cube_37__impl_compareCubes.calls (P0_ : Nat → Prop) (u9000_ : Value) (l0 : List S43) (r : List S43) (w0 w : World) (hB : Below w0.heap.size w0 w) (ho0 : Kd.R k43 43 w w0.heap.size P0_ u9000_ l0) (h : impl_Cube_37__impl_compareCubes.f l0 = some r) :
    Calls Try.prog 37 #[u9000_, .func (.func 38) #[] #[]] w fun e w' => e = .returned (.tuple #[]) ∧ Kd.R k43 43 w' w0.heap.size (fun k_ => (P0_ k_ ∨ w.heap.size ≤ k_)) u9000_ r ∧ Below w0.heap.size w0 w' ∧ Kept w w' (fun k_ => P0_ k_) := by
  unfold impl_Cube_37__impl_compareCubes.f at h
  by_cases hl : 0 < l0.length ∧ l0.length < 4611686018427387904
  · rw [if_pos hl] at h
    obtain rfl := Option.some.inj h
    obtain ⟨g, cap, rfl, hbase, hlt, hcells⟩ := Kd.R_form ho0 hl.1
    have hH := R_holds ho0
    have eg : ∀ args w, (callFunc 38 args).run Try.prog w = .ok (.enter 38 args) w := enters_of Try.func38 (by kernel_rfl) rfl
    have hcmp : CmpLays Try.prog 38 #[] encC 3 cmpV g 0 l0.toArray.size w := fun m os dk hdk x y =>
      (impl_compareCubes.callsG x.f0 x.f1 x.f2 y.f0 y.f1 y.f2 (cmpV x y) _ (cmpV_eq x y)).mono fun _ _ hh => ⟨hh.1, hh.2.gr⟩
    have hcon := AnyQ.slices_SortFunc sortC_lays 3 Try.isAgg43 Try.sizeOf43 encC (fun _ => rfl) (fun x v hv => by simp [encC] at hv; rcases hv with rfl | rfl | rfl <;> rfl) cmpV swoV 38 #[] g 0 cap l0.toArray w eg hcmp hH hlt (by simpa using hl.2)
    have hsz : l0.toArray.size = l0.length := by simp
    rw [hsz] at hcon
    refine (show Calls Try.prog 37 #[.slice (some ⟨g, 0, none⟩) l0.length cap, .func (.func 38) #[] #[]] w _ from hcon).mono ?_
    rintro e w' ⟨rfl, d', n, os, hp, hs, rfl⟩
    have hd : d'.size = l0.length := by rw [hp.1]; simp
    have hr : d'.toList = sortC l0 := by
      have := sorted_unique_holds swoV antiV l0.toArray d' (by rw [hsz]; exact hp) (by rw [hsz]; exact hs)
      simpa [sortC] using this
    have hgw := sortW_grown w g n d' os
    refine ⟨rfl, ?_, pw_below_grown hB (some g) hB.size hgw (fun k hk => by injection hk with hk; exact hk ▸ hbase), ?_⟩
    · have h1 : Kd.R k43 43 (Go.Sort.ahead w n) w0.heap.size P0_ (.slice (some ⟨g, 0, none⟩) l0.length cap) l0 := Kd.R_drewN ho0 n
      have h2 := R_growO (R_putK h1 d' hd) os
      rw [hr] at h2
      exact Kd.R_mono h2 (fun _ hk => .inl hk)
    · refine ⟨hgw.size, fun i hi hn => hgw.block i hi ?_⟩
      intro e
      injection e with e
      exact hn (e ▸ ho0.1 g rfl)
  · rw [if_neg hl] at h
    exact absurd h (by simp)
def cmp_isNaN_int.f (a0 : Int) : Option (Bool) := some (a0 != a0)
theorem cmp_isNaN_int.calls (a0 : Int) (r : Bool) (w : World) (h : cmp_isNaN_int.f a0 = some r) :
  Calls Try.prog 81 #[.int .i64 a0] w fun e w' => e = .returned (.bool r) ∧ Drawn0 w w' := by
 have H : (some (a0 != a0)) = some r := h
 clear h
 obtain rfl := Option.some.inj H
 go_enter Try.func81, Try.ntmps81
 go_wp2
 go_ret
 exact ⟨by first | rfl | (simp; done) | (simp [*]; done), by repeat (first | exact Drawn0.refl _ | apply Drawn0.step)⟩
end Go.Proofs.Ytlompfboheiliaa.F
end
section
namespace Go.Proofs.Ytlompfboheiliaa.F
open Go.RowKit Go.Proofs.YtlompfboheiliaaW.PrintWords Go.Proofs.YtlompfboheiliaaW.PrintLast Go.Proofs.YtlompfboheiliaaW.PrintMore
attribute [local go_sem] max2_int min2_int max_two min_two max_three min_three max_four min_four
set_option linter.unusedVariables false
set_option linter.unusedSimpArgs false
def cmp_Compare_int.f (a0 : Int) (a1 : Int) : Option (Int) := (cmp_isNaN_int.f a0).bind fun t368 => ((cmp_isNaN_int.f a1).bind fun t369 => (if t368 = true then (if t369 = true then (some 0) else (some (-1))) else (if t369 = true then (some 1) else (if a0 < a1 then (some (-1)) else (if a0 > a1 then (some 1) else (some 0))))))
theorem cmp_Compare_int.calls (a0 : Int) (a1 : Int) (r : Int) (w : World) (h : cmp_Compare_int.f a0 a1 = some r) :
  Calls Try.prog 58 #[.int .i64 a0, .int .i64 a1] w fun e w' => e = .returned (.int .i64 r) ∧ Drawn0 w w' := by
 have H : ((cmp_isNaN_int.f a0).bind fun t368 => ((cmp_isNaN_int.f a1).bind fun t369 => (if t368 = true then (if t369 = true then (some 0) else (some (-1))) else (if t369 = true then (some 1) else (if a0 < a1 then (some (-1)) else (if a0 > a1 then (some 1) else (some 0))))))) = some r := h
 clear h
 replace H := Option.bind_eq_some_iff.mp H
 obtain ⟨t368, A30, H⟩ := H
 replace H : ((cmp_isNaN_int.f a1).bind fun t369 => (if t368 = true then (if t369 = true then (some 0) else (some (-1))) else (if t369 = true then (some 1) else (if a0 < a1 then (some (-1)) else (if a0 > a1 then (some 1) else (some 0)))))) = some r := H
 have A3 := aM A30
 clear A30
 replace H := Option.bind_eq_some_iff.mp H
 obtain ⟨t369, A40, H⟩ := H
 replace H : (if t368 = true then (if t369 = true then (some 0) else (some (-1))) else (if t369 = true then (some 1) else (if a0 < a1 then (some (-1)) else (if a0 > a1 then (some 1) else (some 0))))) = some r := H
 have A4 := aM A40
 clear A40
 by_cases c5 : t368 = true
 ·subst c5
  have H1 : (if t369 = true then (some 0) else (some (-1))) = some r := by rw [if_pos rfl] at H; exact H
  clear H
  have H := H1
  clear H1
  by_cases c6 : t369 = true
  ·subst c6
   have H1 : (some 0) = some r := by rw [if_pos rfl] at H; exact H
   clear H
   have H := H1
   clear H1
   obtain rfl := Option.some.inj H
   go_enter Try.func58, Try.ntmps58
   go_wp2_with (first | ((with_reducible refine gate_callee (f := 81) rfl ?_); refine goesL_ (some 8) rfl rfl Try.func81 (by kernel_rfl) rfl #[.int .i64 a0] rfl zm ?_; (with_reducible refine (cmp_isNaN_int.calls a0 true _ A3.out).mono ?_); rintro e w' ⟨rfl, ⟨nd, rfl⟩⟩; refine ⟨_, rfl, ?_⟩) | ((with_reducible refine gate_callee (f := 81) rfl ?_); refine goesL_ (some 10) rfl rfl Try.func81 (by kernel_rfl) rfl #[.int .i64 a1] rfl zm ?_; (with_reducible refine (cmp_isNaN_int.calls a1 true _ A4.out).mono ?_); rintro e w' ⟨rfl, ⟨nd, rfl⟩⟩; refine ⟨_, rfl, ?_⟩))
   go_ret
   exact ⟨by first | rfl | (simp; done) | (simp [*]; done), by repeat (first | exact Drawn0.refl _ | apply Drawn0.step)⟩
  replace c6 := Bool.eq_false_iff.mpr c6
  subst c6
  have H1 : (some (-1)) = some r := by rw [if_neg (show ¬ (false = true) by decide)] at H; exact H
  clear H
  have H := H1
  clear H1
  obtain rfl := Option.some.inj H
  go_enter Try.func58, Try.ntmps58
  go_wp2_with (first | ((with_reducible refine gate_callee (f := 81) rfl ?_); refine goesL_ (some 8) rfl rfl Try.func81 (by kernel_rfl) rfl #[.int .i64 a0] rfl zm ?_; (with_reducible refine (cmp_isNaN_int.calls a0 true _ A3.out).mono ?_); rintro e w' ⟨rfl, ⟨nd, rfl⟩⟩; refine ⟨_, rfl, ?_⟩) | ((with_reducible refine gate_callee (f := 81) rfl ?_); refine goesL_ (some 10) rfl rfl Try.func81 (by kernel_rfl) rfl #[.int .i64 a1] rfl zm ?_; (with_reducible refine (cmp_isNaN_int.calls a1 false _ A4.out).mono ?_); rintro e w' ⟨rfl, ⟨nd, rfl⟩⟩; refine ⟨_, rfl, ?_⟩))
  go_ret
  exact ⟨by first | rfl | (simp; done) | (simp [*]; done), by repeat (first | exact Drawn0.refl _ | apply Drawn0.step)⟩
 replace c5 := Bool.eq_false_iff.mpr c5
 subst c5
 have H1 : (if t369 = true then (some 1) else (if a0 < a1 then (some (-1)) else (if a0 > a1 then (some 1) else (some 0)))) = some r := by rw [if_neg (show ¬ (false = true) by decide)] at H; exact H
 clear H
 have H := H1
 clear H1
 by_cases c7 : t369 = true
 ·subst c7
  have H1 : (some 1) = some r := by rw [if_pos rfl] at H; exact H
  clear H
  have H := H1
  clear H1
  obtain rfl := Option.some.inj H
  go_enter Try.func58, Try.ntmps58
  go_wp2_with (first | ((with_reducible refine gate_callee (f := 81) rfl ?_); refine goesL_ (some 8) rfl rfl Try.func81 (by kernel_rfl) rfl #[.int .i64 a0] rfl zm ?_; (with_reducible refine (cmp_isNaN_int.calls a0 false _ A3.out).mono ?_); rintro e w' ⟨rfl, ⟨nd, rfl⟩⟩; refine ⟨_, rfl, ?_⟩) | ((with_reducible refine gate_callee (f := 81) rfl ?_); refine goesL_ (some 10) rfl rfl Try.func81 (by kernel_rfl) rfl #[.int .i64 a1] rfl zm ?_; (with_reducible refine (cmp_isNaN_int.calls a1 true _ A4.out).mono ?_); rintro e w' ⟨rfl, ⟨nd, rfl⟩⟩; refine ⟨_, rfl, ?_⟩))
  go_ret
  exact ⟨by first | rfl | (simp; done) | (simp [*]; done), by repeat (first | exact Drawn0.refl _ | apply Drawn0.step)⟩
 replace c7 := Bool.eq_false_iff.mpr c7
 subst c7
 have H1 : (if a0 < a1 then (some (-1)) else (if a0 > a1 then (some 1) else (some 0))) = some r := by rw [if_neg (show ¬ (false = true) by decide)] at H; exact H
 clear H
 have H := H1
 clear H1
 by_cases c8 : a0 < a1
 ·rw [if_pos c8] at H
  have c8b0 : decide (a0 < a1) = true := decide_eq_true c8
  clear c8
  obtain rfl := Option.some.inj H
  go_enter Try.func58, Try.ntmps58
  go_wp2_with (first | ((with_reducible refine gate_callee (f := 81) rfl ?_); refine goesL_ (some 8) rfl rfl Try.func81 (by kernel_rfl) rfl #[.int .i64 a0] rfl zm ?_; (with_reducible refine (cmp_isNaN_int.calls a0 false _ A3.out).mono ?_); rintro e w' ⟨rfl, ⟨nd, rfl⟩⟩; refine ⟨_, rfl, ?_⟩) | ((with_reducible refine gate_callee (f := 81) rfl ?_); refine goesL_ (some 10) rfl rfl Try.func81 (by kernel_rfl) rfl #[.int .i64 a1] rfl zm ?_; (with_reducible refine (cmp_isNaN_int.calls a1 false _ A4.out).mono ?_); rintro e w' ⟨rfl, ⟨nd, rfl⟩⟩; refine ⟨_, rfl, ?_⟩))
  go_ret
  exact ⟨by first | rfl | (simp; done) | (simp [*]; done), by repeat (first | exact Drawn0.refl _ | apply Drawn0.step)⟩
 rw [if_neg c8] at H
 have c8b0 : decide (a0 < a1) = false := decide_eq_false c8
 clear c8
 by_cases c9 : a0 > a1
 ·rw [if_pos c9] at H
  have c9b0 : decide (a1 < a0) = true := decide_eq_true c9
  clear c9
  obtain rfl := Option.some.inj H
  go_enter Try.func58, Try.ntmps58
  go_wp2_with (first | ((with_reducible refine gate_callee (f := 81) rfl ?_); refine goesL_ (some 8) rfl rfl Try.func81 (by kernel_rfl) rfl #[.int .i64 a0] rfl zm ?_; (with_reducible refine (cmp_isNaN_int.calls a0 false _ A3.out).mono ?_); rintro e w' ⟨rfl, ⟨nd, rfl⟩⟩; refine ⟨_, rfl, ?_⟩) | ((with_reducible refine gate_callee (f := 81) rfl ?_); refine goesL_ (some 10) rfl rfl Try.func81 (by kernel_rfl) rfl #[.int .i64 a1] rfl zm ?_; (with_reducible refine (cmp_isNaN_int.calls a1 false _ A4.out).mono ?_); rintro e w' ⟨rfl, ⟨nd, rfl⟩⟩; refine ⟨_, rfl, ?_⟩))
  go_ret
  exact ⟨by first | rfl | (simp; done) | (simp [*]; done), by repeat (first | exact Drawn0.refl _ | apply Drawn0.step)⟩
 rw [if_neg c9] at H
 have c9b0 : decide (a1 < a0) = false := decide_eq_false c9
 clear c9
 obtain rfl := Option.some.inj H
 go_enter Try.func58, Try.ntmps58
 go_wp2_with (first | ((with_reducible refine gate_callee (f := 81) rfl ?_); refine goesL_ (some 8) rfl rfl Try.func81 (by kernel_rfl) rfl #[.int .i64 a0] rfl zm ?_; (with_reducible refine (cmp_isNaN_int.calls a0 false _ A3.out).mono ?_); rintro e w' ⟨rfl, ⟨nd, rfl⟩⟩; refine ⟨_, rfl, ?_⟩) | ((with_reducible refine gate_callee (f := 81) rfl ?_); refine goesL_ (some 10) rfl rfl Try.func81 (by kernel_rfl) rfl #[.int .i64 a1] rfl zm ?_; (with_reducible refine (cmp_isNaN_int.calls a1 false _ A4.out).mono ?_); rintro e w' ⟨rfl, ⟨nd, rfl⟩⟩; refine ⟨_, rfl, ?_⟩))
 go_ret
 exact ⟨by first | rfl | (simp; done) | (simp [*]; done), by repeat (first | exact Drawn0.refl _ | apply Drawn0.step)⟩
def impl_Cube_59__impl_compareCubes.l0 : Nat → List (S43) → List (S43) → List (S43) → Int → Int → Option (Int)
 | 0, _, _, _, _, _ => none
 | k + 1, x0, x1, x11, x12, x13 => if x13 < x12 then (if 0 ≤ x13 then (if x13 < (x11.length : Int) then (if x13 ≥ (x1.length : Int) then (some 1) else (if x13 < (x1.length : Int) then ((impl_compareCubes.f ((rd_T43 x11 x13).f0) ((rd_T43 x11 x13).f1) ((rd_T43 x11 x13).f2) ((rd_T43 x1 x13).f0) ((rd_T43 x1 x13).f1) ((rd_T43 x1 x13).f2)).bind fun t374 => (if t374 = 0 then (impl_Cube_59__impl_compareCubes.l0 k x0 x1 x11 x12 (wrap64 (x13 + 1))) else (some t374))) else (none))) else (none)) else (none)) else (if (x0.length : Int) < (x1.length : Int) then (some (-1)) else (some 0))
def impl_Cube_59__impl_compareCubes.f (k : Nat) (l0 : List (S43)) (l1 : List (S43))  : Option (Int) := impl_Cube_59__impl_compareCubes.l0 k l0 l1 l0 (l0.length : Int) 0
theorem impl_Cube_59__impl_compareCubes.calls (k : Nat) (A0 : Option Addr) (c0 : Nat) (l0 : List (S43)) (A1 : Option Addr) (c1 : Nat) (l1 : List (S43))  (r : Int) (w : World) (hr0 : Kd.C k43 w A0 l0.length l0) (hc0 : l0.length ≤ c0) (hr1 : Kd.C k43 w A1 l1.length l1) (hc1 : l1.length ≤ c1) (h : impl_Cube_59__impl_compareCubes.f k l0 l1 = some r) :
  Calls Try.prog 59 #[.slice A0 l0.length c0, .slice A1 l1.length c1, .func (.func 38) #[] #[]] w fun e w' => e = .returned (.int .i64 r) ∧ Below w.heap.size w w' := by
 have hu43 := Try.underlying43
 have HR0 := aM hr0
 have HC0 := aM hc0
 clear hr0 hc0
 have HR1 := aM hr1
 have HC1 := aM hc1
 clear hr1 hc1
 have HB := aM (Below.refl w.heap.size w)
 have H : (impl_Cube_59__impl_compareCubes.l0 k l0 l1 l0 (l0.length : Int) 0) = some r := h
 clear h
 have H' := aM H
 clear H
 go_enter Try.func59, Try.ntmps59
 go_wp2
 go_loopg [13] k (fun kq v13 w' => ∃ (x13_1 : Int), v13 = .int .i64 x13_1 ∧ Aside0 (impl_Cube_59__impl_compareCubes.l0 kq l0 l1 l0 (l0.length : Int) x13_1 = some r) ∧ Aside0 (kq ≤ k) ∧ Aside0 (Below w.heap.size w w'))
 case atStart => exact ⟨(0), zr, H', ⟨Nat.le_refl _⟩, ⟨zb⟩⟩
 case round =>
  clear H'
  try clear c1
  try clear p2
  obtain ⟨x13_1, rfl, HA, HK1, HB⟩ := hrel
  cases gk with
  | zero => exact absurd HA.out (by simp [impl_Cube_59__impl_compareCubes.l0])
  | succ k1 =>
   have H := HA.out
   clear HA
   simp only [impl_Cube_59__impl_compareCubes.l0] at H
   by_cases c4 : x13_1 < (l0.length : Int)
   rotate_left
   ·rw [if_neg c4] at H
    have c4b0 : decide (x13_1 < (l0.length : Int)) = false := decide_eq_false c4
    clear c4
    by_cases c27 : (l0.length : Int) < (l1.length : Int)
    ·rw [if_pos c27] at H
     have c27b0 : decide ((l0.length : Int) < (l1.length : Int)) = true := decide_eq_true c27
     have c27b1 : decide (l0.length < l1.length) = true := decide_eq_true (Int.ofNat_lt.mp c27)
     clear c27
     obtain rfl := Option.some.inj H
     go_wp2
     go_ret
     exact ⟨zw, zb⟩
    rw [if_neg c27] at H
    have c27b0 : decide ((l0.length : Int) < (l1.length : Int)) = false := decide_eq_false c27
    have c27b1 : decide (l0.length < l1.length) = false := decide_eq_false (fun h => c27 (Int.ofNat_lt.mpr h))
    clear c27
    obtain rfl := Option.some.inj H
    go_wp2
    go_ret
    exact ⟨zw, zb⟩
   rw [if_pos c4] at H
   have c4b0 : decide (x13_1 < (l0.length : Int)) = true := decide_eq_true c4
   clear c4
   by_cases c5 : 0 ≤ x13_1
   rotate_left
   ·rw [if_neg c5] at H
    exact absurd H (by simp)
   rw [if_pos c5] at H
   have c5b0 : decide (0 ≤ x13_1) = true := decide_eq_true c5
   clear c5
   by_cases c6 : x13_1 < (l0.length : Int)
   rotate_left
   ·rw [if_neg c6] at H
    exact absurd H (by simp)
   rw [if_pos c6] at H
   have c6b0 : decide (x13_1 < (l0.length : Int)) = true := decide_eq_true c6
   clear c6
   by_cases c7 : x13_1 ≥ (l1.length : Int)
   ·rw [if_pos c7] at H
    have c7b0 : decide ((l1.length : Int) ≤ x13_1) = true := decide_eq_true c7
    clear c7
    obtain rfl := Option.some.inj H
    have p370 : 0 ≤ (x13_1 : Int) := of_decide_eq_true za
    have q370 : x13_1 < (l0.length : Int) := of_decide_eq_true za
    obtain ⟨ad370, e370, hx370_0, hx370_1, hx370_2⟩ := at_T43 HR0.out x13_1 p370 q370
    cases e370
    replace hx370_0 := zk HB.out hx370_0
    replace hx370_1 := zk HB.out hx370_1
    replace hx370_2 := zk HB.out hx370_2
    replace p370 := eq_true p370
    replace q370 := eq_true q370
    go_wp2_with (first | ((with_reducible refine gate_dst (N := 8) rfl ?_); refine zx 8 #[.int .i64 0, .int .i64 0, .int .i64 0] 43 ?_; intro gb371 hg w8 hbox hb; have n0_ := aM (below_step zb hb); have n1_ := aM (hbox); have n2_ := aM ((ze : w.heap.size ≤ gb371)); have n3_ := aM ((ze : w.heap.size ≤ gb371)); clear HB; have HB := n0_; have BK371 := n1_; have GW371 := n2_; have GE371 := n3_; clear n0_ n1_ n2_ n3_ hb hbox hg; have hcz9_0 : w8.cell? ⟨gb371, 0, none⟩ = some (.int .i64 0) := (blk_cell BK371.out 0).trans rfl; have hcz9_1 : w8.cell? ⟨gb371, 1, none⟩ = some (.int .i64 0) := (blk_cell BK371.out 1).trans rfl; have hcz9_2 : w8.cell? ⟨gb371, 2, none⟩ = some (.int .i64 0) := (blk_cell BK371.out 2).trans rfl; have hfz9_0 := blk_frozen BK371.out 0; have hfz9_1 := blk_frozen BK371.out 1; have hfz9_2 := blk_frozen BK371.out 2))
    go_ret
    exact ⟨zw, zs GE371.out⟩
   rw [if_neg c7] at H
   have c7b0 : decide ((l1.length : Int) ≤ x13_1) = false := decide_eq_false c7
   clear c7
   by_cases c10 : x13_1 < (l1.length : Int)
   rotate_left
   ·rw [if_neg c10] at H
    exact absurd H (by simp)
   rw [if_pos c10] at H
   have c10b0 : decide (x13_1 < (l1.length : Int)) = true := decide_eq_true c10
   clear c10
   replace H := Option.bind_eq_some_iff.mp H
   obtain ⟨t374, A110, H⟩ := H
   replace H : (if t374 = 0 then (impl_Cube_59__impl_compareCubes.l0 k1 l0 l1 l0 (l0.length : Int) (wrap64 (x13_1 + 1))) else (some t374)) = some r := H
   have A11 := aM A110
   clear A110
   by_cases c12 : t374 = 0
   rotate_left
   ·rw [if_neg c12] at H
    have c12b0 : (t374 == 0) = false := beq_eq_false_iff_ne.mpr c12
    have c12b1 : (t374 != 0) = true := bne_iff_ne.mpr c12
    obtain rfl := Option.some.inj H
    have p370 : 0 ≤ (x13_1 : Int) := of_decide_eq_true za
    have q370 : x13_1 < (l0.length : Int) := of_decide_eq_true za
    obtain ⟨ad370, e370, hx370_0, hx370_1, hx370_2⟩ := at_T43 HR0.out x13_1 p370 q370
    cases e370
    replace hx370_0 := zk HB.out hx370_0
    replace hx370_1 := zk HB.out hx370_1
    replace hx370_2 := zk HB.out hx370_2
    replace p370 := eq_true p370
    replace q370 := eq_true q370
    go_wp2_with (first | ((with_reducible refine gate_dst (N := 8) rfl ?_); refine zx 8 #[.int .i64 0, .int .i64 0, .int .i64 0] 43 ?_; intro gb371 hg w20 hbox hb; have n0_ := aM (below_step zb hb); have n1_ := aM (hbox); have n2_ := aM ((ze : w.heap.size ≤ gb371)); have n3_ := aM ((ze : w.heap.size ≤ gb371)); clear HB; have HB := n0_; have BK371 := n1_; have GW371 := n2_; have GE371 := n3_; clear n0_ n1_ n2_ n3_ hb hbox hg; have hcz21_0 : w20.cell? ⟨gb371, 0, none⟩ = some (.int .i64 0) := (blk_cell BK371.out 0).trans rfl; have hcz21_1 : w20.cell? ⟨gb371, 1, none⟩ = some (.int .i64 0) := (blk_cell BK371.out 1).trans rfl; have hcz21_2 : w20.cell? ⟨gb371, 2, none⟩ = some (.int .i64 0) := (blk_cell BK371.out 2).trans rfl; have hfz21_0 := blk_frozen BK371.out 0; have hfz21_1 := blk_frozen BK371.out 1; have hfz21_2 := blk_frozen BK371.out 2; have p372 : 0 ≤ (x13_1 : Int) := of_decide_eq_true za; have q372 : x13_1 < (l1.length : Int) := of_decide_eq_true za; obtain ⟨ad372, e372, hx372_0, hx372_1, hx372_2⟩ := at_T43 HR1.out x13_1 p372 q372; cases e372; have hn372_0 : ad372.block ≠ gb371 := Nat.ne_of_lt (Nat.lt_of_lt_of_le (by have := World.block_lt_of_cell? _ _ hx372_0; first | rwa [add_block] at this | exact this) GW371.out); have hn372_1 : ad372.block ≠ gb371 := Nat.ne_of_lt (Nat.lt_of_lt_of_le (by have := World.block_lt_of_cell? _ _ hx372_0; first | rwa [add_block] at this | exact this) GW371.out); have hn372_2 : ad372.block ≠ gb371 := Nat.ne_of_lt (Nat.lt_of_lt_of_le (by have := World.block_lt_of_cell? _ _ hx372_0; first | rwa [add_block] at this | exact this) GW371.out); replace hx372_0 := zk HB.out hx372_0; replace hx372_1 := zk HB.out hx372_1; replace hx372_2 := zk HB.out hx372_2; replace hx372_0 := (cell_far (p := ⟨gb371, 0, none⟩) (by first | (rw [add_block]; exact hn372_0) | (show (Addr.add _ _).block ≠ _; rw [add_block]; exact hn372_0) | exact hn372_0) (.int .i64 ((rd_T43 l0 x13_1).f0))).trans hx372_0; replace hx372_1 := (cell_far (p := ⟨gb371, 0, none⟩) (by first | (rw [add_block]; exact hn372_0) | (show (Addr.add _ _).block ≠ _; rw [add_block]; exact hn372_0) | exact hn372_0) (.int .i64 ((rd_T43 l0 x13_1).f0))).trans hx372_1; replace hx372_2 := (cell_far (p := ⟨gb371, 0, none⟩) (by first | (rw [add_block]; exact hn372_0) | (show (Addr.add _ _).block ≠ _; rw [add_block]; exact hn372_0) | exact hn372_0) (.int .i64 ((rd_T43 l0 x13_1).f0))).trans hx372_2; replace hx372_0 := (cell_far (p := ⟨gb371, 1, none⟩) (by first | (rw [add_block]; exact hn372_1) | (show (Addr.add _ _).block ≠ _; rw [add_block]; exact hn372_1) | exact hn372_1) (.int .i64 ((rd_T43 l0 x13_1).f1))).trans hx372_0; replace hx372_1 := (cell_far (p := ⟨gb371, 1, none⟩) (by first | (rw [add_block]; exact hn372_1) | (show (Addr.add _ _).block ≠ _; rw [add_block]; exact hn372_1) | exact hn372_1) (.int .i64 ((rd_T43 l0 x13_1).f1))).trans hx372_1; replace hx372_2 := (cell_far (p := ⟨gb371, 1, none⟩) (by first | (rw [add_block]; exact hn372_1) | (show (Addr.add _ _).block ≠ _; rw [add_block]; exact hn372_1) | exact hn372_1) (.int .i64 ((rd_T43 l0 x13_1).f1))).trans hx372_2; replace hx372_0 := (cell_far (p := ⟨gb371, 2, none⟩) (by first | (rw [add_block]; exact hn372_2) | (show (Addr.add _ _).block ≠ _; rw [add_block]; exact hn372_2) | exact hn372_2) (.int .i64 ((rd_T43 l0 x13_1).f2))).trans hx372_0; replace hx372_1 := (cell_far (p := ⟨gb371, 2, none⟩) (by first | (rw [add_block]; exact hn372_2) | (show (Addr.add _ _).block ≠ _; rw [add_block]; exact hn372_2) | exact hn372_2) (.int .i64 ((rd_T43 l0 x13_1).f2))).trans hx372_1; replace hx372_2 := (cell_far (p := ⟨gb371, 2, none⟩) (by first | (rw [add_block]; exact hn372_2) | (show (Addr.add _ _).block ≠ _; rw [add_block]; exact hn372_2) | exact hn372_2) (.int .i64 ((rd_T43 l0 x13_1).f2))).trans hx372_2; clear hn372_0 hn372_1 hn372_2; replace p372 := eq_true p372; replace q372 := eq_true q372) | ((with_reducible refine gate_dst (N := 9) rfl ?_); refine zx 9 #[.int .i64 0, .int .i64 0, .int .i64 0] 43 ?_; intro gb373 hg w22 hbox hb; have n0_ := aM (blk_below (g := gb371) (o := .cells #[.int .i64 ((rd_T43 l0 x13_1).f0), .int .i64 ((rd_T43 l0 x13_1).f1), .int .i64 ((rd_T43 l0 x13_1).f2)] 43 (0, 0)) (by (with_reducible repeat (first | refine blk_drewN ?_ _ | refine blk_drew ?_ | refine blk_alloc ?_ _)); refine blk_put (cs := #[.int .i64 ((rd_T43 l0 x13_1).f0), .int .i64 ((rd_T43 l0 x13_1).f1), .int .i64 0]) ?_ 2 _ rfl; (with_reducible repeat (first | refine blk_drewN ?_ _ | refine blk_drew ?_ | refine blk_alloc ?_ _)); refine blk_put (cs := #[.int .i64 ((rd_T43 l0 x13_1).f0), .int .i64 0, .int .i64 0]) ?_ 1 _ rfl; (with_reducible repeat (first | refine blk_drewN ?_ _ | refine blk_drew ?_ | refine blk_alloc ?_ _)); refine blk_put (cs := #[.int .i64 0, .int .i64 0, .int .i64 0]) ?_ 0 _ rfl; (with_reducible repeat (first | refine blk_drewN ?_ _ | refine blk_drew ?_ | refine blk_alloc ?_ _)); exact BK371.out) hb); have n1_ := aM (below_step (zs GE371.out) hb); have n2_ := aM (hbox); have n3_ := aM ((zf GE371.out : w.heap.size ≤ gb373)); have n4_ := aM ((zf GE371.out : w.heap.size ≤ gb373)); have n5_ := aM ((by rw [hg]; exact Nat.ne_of_lt (blk_lt (g := gb371) (o := .cells #[.int .i64 ((rd_T43 l0 x13_1).f0), .int .i64 ((rd_T43 l0 x13_1).f1), .int .i64 ((rd_T43 l0 x13_1).f2)] 43 (0, 0)) (by (with_reducible repeat (first | refine blk_drewN ?_ _ | refine blk_drew ?_ | refine blk_alloc ?_ _)); refine blk_put (cs := #[.int .i64 ((rd_T43 l0 x13_1).f0), .int .i64 ((rd_T43 l0 x13_1).f1), .int .i64 0]) ?_ 2 _ rfl; (with_reducible repeat (first | refine blk_drewN ?_ _ | refine blk_drew ?_ | refine blk_alloc ?_ _)); refine blk_put (cs := #[.int .i64 ((rd_T43 l0 x13_1).f0), .int .i64 0, .int .i64 0]) ?_ 1 _ rfl; (with_reducible repeat (first | refine blk_drewN ?_ _ | refine blk_drew ?_ | refine blk_alloc ?_ _)); refine blk_put (cs := #[.int .i64 0, .int .i64 0, .int .i64 0]) ?_ 0 _ rfl; (with_reducible repeat (first | refine blk_drewN ?_ _ | refine blk_drew ?_ | refine blk_alloc ?_ _)); exact BK371.out)) : gb371 ≠ gb373)); have n6_ := aM ((by rw [hg]; exact Nat.ne_of_gt (blk_lt (g := gb371) (o := .cells #[.int .i64 ((rd_T43 l0 x13_1).f0), .int .i64 ((rd_T43 l0 x13_1).f1), .int .i64 ((rd_T43 l0 x13_1).f2)] 43 (0, 0)) (by (with_reducible repeat (first | refine blk_drewN ?_ _ | refine blk_drew ?_ | refine blk_alloc ?_ _)); refine blk_put (cs := #[.int .i64 ((rd_T43 l0 x13_1).f0), .int .i64 ((rd_T43 l0 x13_1).f1), .int .i64 0]) ?_ 2 _ rfl; (with_reducible repeat (first | refine blk_drewN ?_ _ | refine blk_drew ?_ | refine blk_alloc ?_ _)); refine blk_put (cs := #[.int .i64 ((rd_T43 l0 x13_1).f0), .int .i64 0, .int .i64 0]) ?_ 1 _ rfl; (with_reducible repeat (first | refine blk_drewN ?_ _ | refine blk_drew ?_ | refine blk_alloc ?_ _)); refine blk_put (cs := #[.int .i64 0, .int .i64 0, .int .i64 0]) ?_ 0 _ rfl; (with_reducible repeat (first | refine blk_drewN ?_ _ | refine blk_drew ?_ | refine blk_alloc ?_ _)); exact BK371.out)) : gb373 ≠ gb371)); clear BK371 HB; have BK371 := n0_; have HB := n1_; have BK373 := n2_; have GW373 := n3_; have GE373 := n4_; have NB371_373 := n5_; have NB373_371 := n6_; clear n0_ n1_ n2_ n3_ n4_ n5_ n6_ hb hbox hg; have hnb23 := NB373_371.out; have hnc23 := NB371_373.out; have hcz24_0 : w22.cell? ⟨gb373, 0, none⟩ = some (.int .i64 0) := (blk_cell BK373.out 0).trans rfl; have hcz24_1 : w22.cell? ⟨gb373, 1, none⟩ = some (.int .i64 0) := (blk_cell BK373.out 1).trans rfl; have hcz24_2 : w22.cell? ⟨gb373, 2, none⟩ = some (.int .i64 0) := (blk_cell BK373.out 2).trans rfl; have hfz24_0 := blk_frozen BK373.out 0; have hfz24_1 := blk_frozen BK373.out 1; have hfz24_2 := blk_frozen BK373.out 2; have hcz25_0 : w22.cell? ⟨gb371, 0, none⟩ = some (.int .i64 ((rd_T43 l0 x13_1).f0)) := (blk_cell BK371.out 0).trans rfl; have hcz25_1 : w22.cell? ⟨gb371, 1, none⟩ = some (.int .i64 ((rd_T43 l0 x13_1).f1)) := (blk_cell BK371.out 1).trans rfl; have hcz25_2 : w22.cell? ⟨gb371, 2, none⟩ = some (.int .i64 ((rd_T43 l0 x13_1).f2)) := (blk_cell BK371.out 2).trans rfl; have hfz25_0 := blk_frozen BK371.out 0; have hfz25_1 := blk_frozen BK371.out 1; have hfz25_2 := blk_frozen BK371.out 2) | (go_at_call 38; (with_reducible refine (impl_compareCubes.calls ((rd_T43 l0 x13_1).f0) ((rd_T43 l0 x13_1).f1) ((rd_T43 l0 x13_1).f2) ((rd_T43 l1 x13_1).f0) ((rd_T43 l1 x13_1).f1) ((rd_T43 l1 x13_1).f2) t374 _ A11.out).mono ?_); rintro e w26 ⟨rfl, hb⟩; have n0_ := aM (blk_below (g := gb371) (o := .cells #[.int .i64 ((rd_T43 l0 x13_1).f0), .int .i64 ((rd_T43 l0 x13_1).f1), .int .i64 ((rd_T43 l0 x13_1).f2)] 43 (0, 0)) (by (with_reducible repeat (first | refine blk_drewN ?_ _ | refine blk_drew ?_ | refine blk_alloc ?_ _)); refine blk_far ?_ NB371_373.out _; (with_reducible repeat (first | refine blk_drewN ?_ _ | refine blk_drew ?_ | refine blk_alloc ?_ _)); refine blk_far ?_ NB371_373.out _; (with_reducible repeat (first | refine blk_drewN ?_ _ | refine blk_drew ?_ | refine blk_alloc ?_ _)); refine blk_far ?_ NB371_373.out _; (with_reducible repeat (first | refine blk_drewN ?_ _ | refine blk_drew ?_ | refine blk_alloc ?_ _)); exact BK371.out) hb); have n1_ := aM (blk_below (g := gb373) (o := .cells #[.int .i64 ((rd_T43 l1 x13_1).f0), .int .i64 ((rd_T43 l1 x13_1).f1), .int .i64 ((rd_T43 l1 x13_1).f2)] 43 (0, 0)) (by (with_reducible repeat (first | refine blk_drewN ?_ _ | refine blk_drew ?_ | refine blk_alloc ?_ _)); refine blk_put (cs := #[.int .i64 ((rd_T43 l1 x13_1).f0), .int .i64 ((rd_T43 l1 x13_1).f1), .int .i64 0]) ?_ 2 _ rfl; (with_reducible repeat (first | refine blk_drewN ?_ _ | refine blk_drew ?_ | refine blk_alloc ?_ _)); refine blk_put (cs := #[.int .i64 ((rd_T43 l1 x13_1).f0), .int .i64 0, .int .i64 0]) ?_ 1 _ rfl; (with_reducible repeat (first | refine blk_drewN ?_ _ | refine blk_drew ?_ | refine blk_alloc ?_ _)); refine blk_put (cs := #[.int .i64 0, .int .i64 0, .int .i64 0]) ?_ 0 _ rfl; (with_reducible repeat (first | refine blk_drewN ?_ _ | refine blk_drew ?_ | refine blk_alloc ?_ _)); exact BK373.out) hb); have n2_ := aM (below_step (zt GE371.out GE373.out) hb); clear BK371 BK373 HB; have BK371 := n0_; have BK373 := n1_; have HB := n2_; clear n0_ n1_ n2_; (try clear hb); (try clear hb2); (try clear hk); (try clear hi)))
    go_ret
    exact ⟨zw, zt GE371.out GE373.out⟩
   rw [if_pos c12] at H
   have c12b0 : (t374 == 0) = true := beq_iff_eq.mpr c12
   have c12b1 : (t374 != 0) = false := bne_eq_false_iff_eq.mpr c12
   clear c12
   have H' := aM H
   clear H
   have p370 : 0 ≤ (x13_1 : Int) := of_decide_eq_true za
   have q370 : x13_1 < (l0.length : Int) := of_decide_eq_true za
   obtain ⟨ad370, e370, hx370_0, hx370_1, hx370_2⟩ := at_T43 HR0.out x13_1 p370 q370
   cases e370
   replace hx370_0 := zk HB.out hx370_0
   replace hx370_1 := zk HB.out hx370_1
   replace hx370_2 := zk HB.out hx370_2
   replace p370 := eq_true p370
   replace q370 := eq_true q370
   go_wp2_with (first | ((with_reducible refine gate_dst (N := 8) rfl ?_); refine zx 8 #[.int .i64 0, .int .i64 0, .int .i64 0] 43 ?_; intro gb371 hg w13 hbox hb; have n0_ := aM (below_step zb hb); have n1_ := aM (hbox); have n2_ := aM ((ze : w.heap.size ≤ gb371)); have n3_ := aM ((ze : w.heap.size ≤ gb371)); clear HB; have HB := n0_; have BK371 := n1_; have GW371 := n2_; have GE371 := n3_; clear n0_ n1_ n2_ n3_ hb hbox hg; have hcz14_0 : w13.cell? ⟨gb371, 0, none⟩ = some (.int .i64 0) := (blk_cell BK371.out 0).trans rfl; have hcz14_1 : w13.cell? ⟨gb371, 1, none⟩ = some (.int .i64 0) := (blk_cell BK371.out 1).trans rfl; have hcz14_2 : w13.cell? ⟨gb371, 2, none⟩ = some (.int .i64 0) := (blk_cell BK371.out 2).trans rfl; have hfz14_0 := blk_frozen BK371.out 0; have hfz14_1 := blk_frozen BK371.out 1; have hfz14_2 := blk_frozen BK371.out 2; have p372 : 0 ≤ (x13_1 : Int) := of_decide_eq_true za; have q372 : x13_1 < (l1.length : Int) := of_decide_eq_true za; obtain ⟨ad372, e372, hx372_0, hx372_1, hx372_2⟩ := at_T43 HR1.out x13_1 p372 q372; cases e372; have hn372_0 : ad372.block ≠ gb371 := Nat.ne_of_lt (Nat.lt_of_lt_of_le (by have := World.block_lt_of_cell? _ _ hx372_0; first | rwa [add_block] at this | exact this) GW371.out); have hn372_1 : ad372.block ≠ gb371 := Nat.ne_of_lt (Nat.lt_of_lt_of_le (by have := World.block_lt_of_cell? _ _ hx372_0; first | rwa [add_block] at this | exact this) GW371.out); have hn372_2 : ad372.block ≠ gb371 := Nat.ne_of_lt (Nat.lt_of_lt_of_le (by have := World.block_lt_of_cell? _ _ hx372_0; first | rwa [add_block] at this | exact this) GW371.out); replace hx372_0 := zk HB.out hx372_0; replace hx372_1 := zk HB.out hx372_1; replace hx372_2 := zk HB.out hx372_2; replace hx372_0 := (cell_far (p := ⟨gb371, 0, none⟩) (by first | (rw [add_block]; exact hn372_0) | (show (Addr.add _ _).block ≠ _; rw [add_block]; exact hn372_0) | exact hn372_0) (.int .i64 ((rd_T43 l0 x13_1).f0))).trans hx372_0; replace hx372_1 := (cell_far (p := ⟨gb371, 0, none⟩) (by first | (rw [add_block]; exact hn372_0) | (show (Addr.add _ _).block ≠ _; rw [add_block]; exact hn372_0) | exact hn372_0) (.int .i64 ((rd_T43 l0 x13_1).f0))).trans hx372_1; replace hx372_2 := (cell_far (p := ⟨gb371, 0, none⟩) (by first | (rw [add_block]; exact hn372_0) | (show (Addr.add _ _).block ≠ _; rw [add_block]; exact hn372_0) | exact hn372_0) (.int .i64 ((rd_T43 l0 x13_1).f0))).trans hx372_2; replace hx372_0 := (cell_far (p := ⟨gb371, 1, none⟩) (by first | (rw [add_block]; exact hn372_1) | (show (Addr.add _ _).block ≠ _; rw [add_block]; exact hn372_1) | exact hn372_1) (.int .i64 ((rd_T43 l0 x13_1).f1))).trans hx372_0; replace hx372_1 := (cell_far (p := ⟨gb371, 1, none⟩) (by first | (rw [add_block]; exact hn372_1) | (show (Addr.add _ _).block ≠ _; rw [add_block]; exact hn372_1) | exact hn372_1) (.int .i64 ((rd_T43 l0 x13_1).f1))).trans hx372_1; replace hx372_2 := (cell_far (p := ⟨gb371, 1, none⟩) (by first | (rw [add_block]; exact hn372_1) | (show (Addr.add _ _).block ≠ _; rw [add_block]; exact hn372_1) | exact hn372_1) (.int .i64 ((rd_T43 l0 x13_1).f1))).trans hx372_2; replace hx372_0 := (cell_far (p := ⟨gb371, 2, none⟩) (by first | (rw [add_block]; exact hn372_2) | (show (Addr.add _ _).block ≠ _; rw [add_block]; exact hn372_2) | exact hn372_2) (.int .i64 ((rd_T43 l0 x13_1).f2))).trans hx372_0; replace hx372_1 := (cell_far (p := ⟨gb371, 2, none⟩) (by first | (rw [add_block]; exact hn372_2) | (show (Addr.add _ _).block ≠ _; rw [add_block]; exact hn372_2) | exact hn372_2) (.int .i64 ((rd_T43 l0 x13_1).f2))).trans hx372_1; replace hx372_2 := (cell_far (p := ⟨gb371, 2, none⟩) (by first | (rw [add_block]; exact hn372_2) | (show (Addr.add _ _).block ≠ _; rw [add_block]; exact hn372_2) | exact hn372_2) (.int .i64 ((rd_T43 l0 x13_1).f2))).trans hx372_2; clear hn372_0 hn372_1 hn372_2; replace p372 := eq_true p372; replace q372 := eq_true q372) | ((with_reducible refine gate_dst (N := 9) rfl ?_); refine zx 9 #[.int .i64 0, .int .i64 0, .int .i64 0] 43 ?_; intro gb373 hg w15 hbox hb; have n0_ := aM (blk_below (g := gb371) (o := .cells #[.int .i64 ((rd_T43 l0 x13_1).f0), .int .i64 ((rd_T43 l0 x13_1).f1), .int .i64 ((rd_T43 l0 x13_1).f2)] 43 (0, 0)) (by (with_reducible repeat (first | refine blk_drewN ?_ _ | refine blk_drew ?_ | refine blk_alloc ?_ _)); refine blk_put (cs := #[.int .i64 ((rd_T43 l0 x13_1).f0), .int .i64 ((rd_T43 l0 x13_1).f1), .int .i64 0]) ?_ 2 _ rfl; (with_reducible repeat (first | refine blk_drewN ?_ _ | refine blk_drew ?_ | refine blk_alloc ?_ _)); refine blk_put (cs := #[.int .i64 ((rd_T43 l0 x13_1).f0), .int .i64 0, .int .i64 0]) ?_ 1 _ rfl; (with_reducible repeat (first | refine blk_drewN ?_ _ | refine blk_drew ?_ | refine blk_alloc ?_ _)); refine blk_put (cs := #[.int .i64 0, .int .i64 0, .int .i64 0]) ?_ 0 _ rfl; (with_reducible repeat (first | refine blk_drewN ?_ _ | refine blk_drew ?_ | refine blk_alloc ?_ _)); exact BK371.out) hb); have n1_ := aM (below_step (zs GE371.out) hb); have n2_ := aM (hbox); have n3_ := aM ((zf GE371.out : w.heap.size ≤ gb373)); have n4_ := aM ((zf GE371.out : w.heap.size ≤ gb373)); have n5_ := aM ((by rw [hg]; exact Nat.ne_of_lt (blk_lt (g := gb371) (o := .cells #[.int .i64 ((rd_T43 l0 x13_1).f0), .int .i64 ((rd_T43 l0 x13_1).f1), .int .i64 ((rd_T43 l0 x13_1).f2)] 43 (0, 0)) (by (with_reducible repeat (first | refine blk_drewN ?_ _ | refine blk_drew ?_ | refine blk_alloc ?_ _)); refine blk_put (cs := #[.int .i64 ((rd_T43 l0 x13_1).f0), .int .i64 ((rd_T43 l0 x13_1).f1), .int .i64 0]) ?_ 2 _ rfl; (with_reducible repeat (first | refine blk_drewN ?_ _ | refine blk_drew ?_ | refine blk_alloc ?_ _)); refine blk_put (cs := #[.int .i64 ((rd_T43 l0 x13_1).f0), .int .i64 0, .int .i64 0]) ?_ 1 _ rfl; (with_reducible repeat (first | refine blk_drewN ?_ _ | refine blk_drew ?_ | refine blk_alloc ?_ _)); refine blk_put (cs := #[.int .i64 0, .int .i64 0, .int .i64 0]) ?_ 0 _ rfl; (with_reducible repeat (first | refine blk_drewN ?_ _ | refine blk_drew ?_ | refine blk_alloc ?_ _)); exact BK371.out)) : gb371 ≠ gb373)); have n6_ := aM ((by rw [hg]; exact Nat.ne_of_gt (blk_lt (g := gb371) (o := .cells #[.int .i64 ((rd_T43 l0 x13_1).f0), .int .i64 ((rd_T43 l0 x13_1).f1), .int .i64 ((rd_T43 l0 x13_1).f2)] 43 (0, 0)) (by (with_reducible repeat (first | refine blk_drewN ?_ _ | refine blk_drew ?_ | refine blk_alloc ?_ _)); refine blk_put (cs := #[.int .i64 ((rd_T43 l0 x13_1).f0), .int .i64 ((rd_T43 l0 x13_1).f1), .int .i64 0]) ?_ 2 _ rfl; (with_reducible repeat (first | refine blk_drewN ?_ _ | refine blk_drew ?_ | refine blk_alloc ?_ _)); refine blk_put (cs := #[.int .i64 ((rd_T43 l0 x13_1).f0), .int .i64 0, .int .i64 0]) ?_ 1 _ rfl; (with_reducible repeat (first | refine blk_drewN ?_ _ | refine blk_drew ?_ | refine blk_alloc ?_ _)); refine blk_put (cs := #[.int .i64 0, .int .i64 0, .int .i64 0]) ?_ 0 _ rfl; (with_reducible repeat (first | refine blk_drewN ?_ _ | refine blk_drew ?_ | refine blk_alloc ?_ _)); exact BK371.out)) : gb373 ≠ gb371)); clear BK371 HB; have BK371 := n0_; have HB := n1_; have BK373 := n2_; have GW373 := n3_; have GE373 := n4_; have NB371_373 := n5_; have NB373_371 := n6_; clear n0_ n1_ n2_ n3_ n4_ n5_ n6_ hb hbox hg; have hnb16 := NB373_371.out; have hnc16 := NB371_373.out; have hcz17_0 : w15.cell? ⟨gb373, 0, none⟩ = some (.int .i64 0) := (blk_cell BK373.out 0).trans rfl; have hcz17_1 : w15.cell? ⟨gb373, 1, none⟩ = some (.int .i64 0) := (blk_cell BK373.out 1).trans rfl; have hcz17_2 : w15.cell? ⟨gb373, 2, none⟩ = some (.int .i64 0) := (blk_cell BK373.out 2).trans rfl; have hfz17_0 := blk_frozen BK373.out 0; have hfz17_1 := blk_frozen BK373.out 1; have hfz17_2 := blk_frozen BK373.out 2; have hcz18_0 : w15.cell? ⟨gb371, 0, none⟩ = some (.int .i64 ((rd_T43 l0 x13_1).f0)) := (blk_cell BK371.out 0).trans rfl; have hcz18_1 : w15.cell? ⟨gb371, 1, none⟩ = some (.int .i64 ((rd_T43 l0 x13_1).f1)) := (blk_cell BK371.out 1).trans rfl; have hcz18_2 : w15.cell? ⟨gb371, 2, none⟩ = some (.int .i64 ((rd_T43 l0 x13_1).f2)) := (blk_cell BK371.out 2).trans rfl; have hfz18_0 := blk_frozen BK371.out 0; have hfz18_1 := blk_frozen BK371.out 1; have hfz18_2 := blk_frozen BK371.out 2) | (go_at_call 38; (with_reducible refine (impl_compareCubes.calls ((rd_T43 l0 x13_1).f0) ((rd_T43 l0 x13_1).f1) ((rd_T43 l0 x13_1).f2) ((rd_T43 l1 x13_1).f0) ((rd_T43 l1 x13_1).f1) ((rd_T43 l1 x13_1).f2) t374 _ A11.out).mono ?_); rintro e w19 ⟨rfl, hb⟩; have n0_ := aM (blk_below (g := gb371) (o := .cells #[.int .i64 ((rd_T43 l0 x13_1).f0), .int .i64 ((rd_T43 l0 x13_1).f1), .int .i64 ((rd_T43 l0 x13_1).f2)] 43 (0, 0)) (by (with_reducible repeat (first | refine blk_drewN ?_ _ | refine blk_drew ?_ | refine blk_alloc ?_ _)); refine blk_far ?_ NB371_373.out _; (with_reducible repeat (first | refine blk_drewN ?_ _ | refine blk_drew ?_ | refine blk_alloc ?_ _)); refine blk_far ?_ NB371_373.out _; (with_reducible repeat (first | refine blk_drewN ?_ _ | refine blk_drew ?_ | refine blk_alloc ?_ _)); refine blk_far ?_ NB371_373.out _; (with_reducible repeat (first | refine blk_drewN ?_ _ | refine blk_drew ?_ | refine blk_alloc ?_ _)); exact BK371.out) hb); have n1_ := aM (blk_below (g := gb373) (o := .cells #[.int .i64 ((rd_T43 l1 x13_1).f0), .int .i64 ((rd_T43 l1 x13_1).f1), .int .i64 ((rd_T43 l1 x13_1).f2)] 43 (0, 0)) (by (with_reducible repeat (first | refine blk_drewN ?_ _ | refine blk_drew ?_ | refine blk_alloc ?_ _)); refine blk_put (cs := #[.int .i64 ((rd_T43 l1 x13_1).f0), .int .i64 ((rd_T43 l1 x13_1).f1), .int .i64 0]) ?_ 2 _ rfl; (with_reducible repeat (first | refine blk_drewN ?_ _ | refine blk_drew ?_ | refine blk_alloc ?_ _)); refine blk_put (cs := #[.int .i64 ((rd_T43 l1 x13_1).f0), .int .i64 0, .int .i64 0]) ?_ 1 _ rfl; (with_reducible repeat (first | refine blk_drewN ?_ _ | refine blk_drew ?_ | refine blk_alloc ?_ _)); refine blk_put (cs := #[.int .i64 0, .int .i64 0, .int .i64 0]) ?_ 0 _ rfl; (with_reducible repeat (first | refine blk_drewN ?_ _ | refine blk_drew ?_ | refine blk_alloc ?_ _)); exact BK373.out) hb); have n2_ := aM (below_step (zt GE371.out GE373.out) hb); clear BK371 BK373 HB; have BK371 := n0_; have BK373 := n1_; have HB := n2_; clear n0_ n1_ n2_; (try clear hb); (try clear hb2); (try clear hk); (try clear hi)))
   go_roundg k1
   case measure => have := HK1.out; omega
   case rel => exact ⟨(wrap64 (x13_1 + 1)), zr, H', ⟨by have := HK1.out; omega⟩, ⟨zt GE371.out GE373.out⟩⟩
theorem impl_Cube_59__impl_compareCubes.callsG (k : Nat) (A0 : Option Addr) (c0 : Nat) (l0 : List (S43)) (A1 : Option Addr) (c1 : Nat) (l1 : List (S43))  (r : Int) (w : World) (hr0 : Kd.C k43 w A0 l0.length l0) (hc0 : l0.length ≤ c0) (hr1 : Kd.C k43 w A1 l1.length l1) (hc1 : l1.length ≤ c1) (h : impl_Cube_59__impl_compareCubes.f k l0 l1 = some r) :
  Calls Try.prog 59 #[.slice A0 l0.length c0, .slice A1 l1.length c1, .func (.func 38) #[] #[]] w fun e w' => e = .returned (.int .i64 r) ∧ BelG w.heap.size w w' := by
 have hu43 := Try.underlying43
 have HR0 := aM hr0
 have HC0 := aM hc0
 clear hr0 hc0
 have HR1 := aM hr1
 have HC1 := aM hc1
 clear hr1 hc1
 have HB := aM (BelG.refl w.heap.size w)
 have H : (impl_Cube_59__impl_compareCubes.l0 k l0 l1 l0 (l0.length : Int) 0) = some r := h
 clear h
 have H' := aM H
 clear H
 go_enter Try.func59, Try.ntmps59
 go_wp2
 go_loopg [13] k (fun kq v13 w' => ∃ (x13_1 : Int), v13 = .int .i64 x13_1 ∧ Aside0 (impl_Cube_59__impl_compareCubes.l0 kq l0 l1 l0 (l0.length : Int) x13_1 = some r) ∧ Aside0 (kq ≤ k) ∧ Aside0 (BelG w.heap.size w w'))
 case atStart => exact ⟨(0), zr, H', ⟨Nat.le_refl _⟩, ⟨zg⟩⟩
 case round =>
  clear H'
  try clear c1
  try clear p2
  obtain ⟨x13_1, rfl, HA, HK1, HB⟩ := hrel
  cases gk with
  | zero => exact absurd HA.out (by simp [impl_Cube_59__impl_compareCubes.l0])
  | succ k1 =>
   have H := HA.out
   clear HA
   simp only [impl_Cube_59__impl_compareCubes.l0] at H
   by_cases c4 : x13_1 < (l0.length : Int)
   rotate_left
   ·rw [if_neg c4] at H
    have c4b0 : decide (x13_1 < (l0.length : Int)) = false := decide_eq_false c4
    clear c4
    by_cases c27 : (l0.length : Int) < (l1.length : Int)
    ·rw [if_pos c27] at H
     have c27b0 : decide ((l0.length : Int) < (l1.length : Int)) = true := decide_eq_true c27
     have c27b1 : decide (l0.length < l1.length) = true := decide_eq_true (Int.ofNat_lt.mp c27)
     clear c27
     obtain rfl := Option.some.inj H
     go_wp2
     go_ret
     exact ⟨zw, zg⟩
    rw [if_neg c27] at H
    have c27b0 : decide ((l0.length : Int) < (l1.length : Int)) = false := decide_eq_false c27
    have c27b1 : decide (l0.length < l1.length) = false := decide_eq_false (fun h => c27 (Int.ofNat_lt.mpr h))
    clear c27
    obtain rfl := Option.some.inj H
    go_wp2
    go_ret
    exact ⟨zw, zg⟩
   rw [if_pos c4] at H
   have c4b0 : decide (x13_1 < (l0.length : Int)) = true := decide_eq_true c4
   clear c4
   by_cases c5 : 0 ≤ x13_1
   rotate_left
   ·rw [if_neg c5] at H
    exact absurd H (by simp)
   rw [if_pos c5] at H
   have c5b0 : decide (0 ≤ x13_1) = true := decide_eq_true c5
   clear c5
   by_cases c6 : x13_1 < (l0.length : Int)
   rotate_left
   ·rw [if_neg c6] at H
    exact absurd H (by simp)
   rw [if_pos c6] at H
   have c6b0 : decide (x13_1 < (l0.length : Int)) = true := decide_eq_true c6
   clear c6
   by_cases c7 : x13_1 ≥ (l1.length : Int)
   ·rw [if_pos c7] at H
    have c7b0 : decide ((l1.length : Int) ≤ x13_1) = true := decide_eq_true c7
    clear c7
    obtain rfl := Option.some.inj H
    have p370 : 0 ≤ (x13_1 : Int) := of_decide_eq_true za
    have q370 : x13_1 < (l0.length : Int) := of_decide_eq_true za
    obtain ⟨ad370, e370, hx370_0, hx370_1, hx370_2⟩ := at_T43 HR0.out x13_1 p370 q370
    cases e370
    replace hx370_0 := (HB.out.cell (World.block_lt_of_cell? w _ hx370_0)).trans hx370_0
    replace hx370_1 := (HB.out.cell (World.block_lt_of_cell? w _ hx370_1)).trans hx370_1
    replace hx370_2 := (HB.out.cell (World.block_lt_of_cell? w _ hx370_2)).trans hx370_2
    replace p370 := eq_true p370
    replace q370 := eq_true q370
    go_wp2_with (first | ((with_reducible refine gate_dst (N := 8) rfl ?_); refine box_eventD ?hg (N := 8) ?hd (cs := #[.int .i64 0, .int .i64 0, .int .i64 0]) (t := 43) ?hr ?_; (case hd => rfl); (case hg => rfl); (case hr => first | (go_simp; done) | (go_simp; rfl)); intro gb371 hg w8 hbox hb; have n0_ := aM (belG_step zg hb); have n1_ := aM (hbox); have n2_ := aM ((zi : w.heap.size ≤ gb371)); have n3_ := aM ((zi : w.heap.size ≤ gb371)); clear HB; have HB := n0_; have BK371 := n1_; have GW371 := n2_; have GE371 := n3_; clear n0_ n1_ n2_ n3_ hb hbox hg; have hcz9_0 : w8.cell? ⟨gb371, 0, none⟩ = some (.int .i64 0) := (blk_cell BK371.out 0).trans rfl; have hcz9_1 : w8.cell? ⟨gb371, 1, none⟩ = some (.int .i64 0) := (blk_cell BK371.out 1).trans rfl; have hcz9_2 : w8.cell? ⟨gb371, 2, none⟩ = some (.int .i64 0) := (blk_cell BK371.out 2).trans rfl; have hfz9_0 := blk_frozen BK371.out 0; have hfz9_1 := blk_frozen BK371.out 1; have hfz9_2 := blk_frozen BK371.out 2))
    go_ret
    exact ⟨zw, zh GE371.out⟩
   rw [if_neg c7] at H
   have c7b0 : decide ((l1.length : Int) ≤ x13_1) = false := decide_eq_false c7
   clear c7
   by_cases c10 : x13_1 < (l1.length : Int)
   rotate_left
   ·rw [if_neg c10] at H
    exact absurd H (by simp)
   rw [if_pos c10] at H
   have c10b0 : decide (x13_1 < (l1.length : Int)) = true := decide_eq_true c10
   clear c10
   replace H := Option.bind_eq_some_iff.mp H
   obtain ⟨t374, A110, H⟩ := H
   replace H : (if t374 = 0 then (impl_Cube_59__impl_compareCubes.l0 k1 l0 l1 l0 (l0.length : Int) (wrap64 (x13_1 + 1))) else (some t374)) = some r := H
   have A11 := aM A110
   clear A110
   by_cases c12 : t374 = 0
   rotate_left
   ·rw [if_neg c12] at H
    have c12b0 : (t374 == 0) = false := beq_eq_false_iff_ne.mpr c12
    have c12b1 : (t374 != 0) = true := bne_iff_ne.mpr c12
    obtain rfl := Option.some.inj H
    have p370 : 0 ≤ (x13_1 : Int) := of_decide_eq_true za
    have q370 : x13_1 < (l0.length : Int) := of_decide_eq_true za
    obtain ⟨ad370, e370, hx370_0, hx370_1, hx370_2⟩ := at_T43 HR0.out x13_1 p370 q370
    cases e370
    replace hx370_0 := (HB.out.cell (World.block_lt_of_cell? w _ hx370_0)).trans hx370_0
    replace hx370_1 := (HB.out.cell (World.block_lt_of_cell? w _ hx370_1)).trans hx370_1
    replace hx370_2 := (HB.out.cell (World.block_lt_of_cell? w _ hx370_2)).trans hx370_2
    replace p370 := eq_true p370
    replace q370 := eq_true q370
    go_wp2_with (first | ((with_reducible refine gate_dst (N := 8) rfl ?_); refine box_eventD ?hg (N := 8) ?hd (cs := #[.int .i64 0, .int .i64 0, .int .i64 0]) (t := 43) ?hr ?_; (case hd => rfl); (case hg => rfl); (case hr => first | (go_simp; done) | (go_simp; rfl)); intro gb371 hg w20 hbox hb; have n0_ := aM (belG_step zg hb); have n1_ := aM (hbox); have n2_ := aM ((zi : w.heap.size ≤ gb371)); have n3_ := aM ((zi : w.heap.size ≤ gb371)); clear HB; have HB := n0_; have BK371 := n1_; have GW371 := n2_; have GE371 := n3_; clear n0_ n1_ n2_ n3_ hb hbox hg; have hcz21_0 : w20.cell? ⟨gb371, 0, none⟩ = some (.int .i64 0) := (blk_cell BK371.out 0).trans rfl; have hcz21_1 : w20.cell? ⟨gb371, 1, none⟩ = some (.int .i64 0) := (blk_cell BK371.out 1).trans rfl; have hcz21_2 : w20.cell? ⟨gb371, 2, none⟩ = some (.int .i64 0) := (blk_cell BK371.out 2).trans rfl; have hfz21_0 := blk_frozen BK371.out 0; have hfz21_1 := blk_frozen BK371.out 1; have hfz21_2 := blk_frozen BK371.out 2; have p372 : 0 ≤ (x13_1 : Int) := of_decide_eq_true za; have q372 : x13_1 < (l1.length : Int) := of_decide_eq_true za; obtain ⟨ad372, e372, hx372_0, hx372_1, hx372_2⟩ := at_T43 HR1.out x13_1 p372 q372; cases e372; have hn372_0 : ad372.block ≠ gb371 := Nat.ne_of_lt (Nat.lt_of_lt_of_le (by have := World.block_lt_of_cell? _ _ hx372_0; first | rwa [add_block] at this | exact this) GW371.out); have hn372_1 : ad372.block ≠ gb371 := Nat.ne_of_lt (Nat.lt_of_lt_of_le (by have := World.block_lt_of_cell? _ _ hx372_0; first | rwa [add_block] at this | exact this) GW371.out); have hn372_2 : ad372.block ≠ gb371 := Nat.ne_of_lt (Nat.lt_of_lt_of_le (by have := World.block_lt_of_cell? _ _ hx372_0; first | rwa [add_block] at this | exact this) GW371.out); replace hx372_0 := (HB.out.cell (World.block_lt_of_cell? w _ hx372_0)).trans hx372_0; replace hx372_1 := (HB.out.cell (World.block_lt_of_cell? w _ hx372_1)).trans hx372_1; replace hx372_2 := (HB.out.cell (World.block_lt_of_cell? w _ hx372_2)).trans hx372_2; replace hx372_0 := (cell_far (p := ⟨gb371, 0, none⟩) (by first | (rw [add_block]; exact hn372_0) | (show (Addr.add _ _).block ≠ _; rw [add_block]; exact hn372_0) | exact hn372_0) (.int .i64 ((rd_T43 l0 x13_1).f0))).trans hx372_0; replace hx372_1 := (cell_far (p := ⟨gb371, 0, none⟩) (by first | (rw [add_block]; exact hn372_0) | (show (Addr.add _ _).block ≠ _; rw [add_block]; exact hn372_0) | exact hn372_0) (.int .i64 ((rd_T43 l0 x13_1).f0))).trans hx372_1; replace hx372_2 := (cell_far (p := ⟨gb371, 0, none⟩) (by first | (rw [add_block]; exact hn372_0) | (show (Addr.add _ _).block ≠ _; rw [add_block]; exact hn372_0) | exact hn372_0) (.int .i64 ((rd_T43 l0 x13_1).f0))).trans hx372_2; replace hx372_0 := (cell_far (p := ⟨gb371, 1, none⟩) (by first | (rw [add_block]; exact hn372_1) | (show (Addr.add _ _).block ≠ _; rw [add_block]; exact hn372_1) | exact hn372_1) (.int .i64 ((rd_T43 l0 x13_1).f1))).trans hx372_0; replace hx372_1 := (cell_far (p := ⟨gb371, 1, none⟩) (by first | (rw [add_block]; exact hn372_1) | (show (Addr.add _ _).block ≠ _; rw [add_block]; exact hn372_1) | exact hn372_1) (.int .i64 ((rd_T43 l0 x13_1).f1))).trans hx372_1; replace hx372_2 := (cell_far (p := ⟨gb371, 1, none⟩) (by first | (rw [add_block]; exact hn372_1) | (show (Addr.add _ _).block ≠ _; rw [add_block]; exact hn372_1) | exact hn372_1) (.int .i64 ((rd_T43 l0 x13_1).f1))).trans hx372_2; replace hx372_0 := (cell_far (p := ⟨gb371, 2, none⟩) (by first | (rw [add_block]; exact hn372_2) | (show (Addr.add _ _).block ≠ _; rw [add_block]; exact hn372_2) | exact hn372_2) (.int .i64 ((rd_T43 l0 x13_1).f2))).trans hx372_0; replace hx372_1 := (cell_far (p := ⟨gb371, 2, none⟩) (by first | (rw [add_block]; exact hn372_2) | (show (Addr.add _ _).block ≠ _; rw [add_block]; exact hn372_2) | exact hn372_2) (.int .i64 ((rd_T43 l0 x13_1).f2))).trans hx372_1; replace hx372_2 := (cell_far (p := ⟨gb371, 2, none⟩) (by first | (rw [add_block]; exact hn372_2) | (show (Addr.add _ _).block ≠ _; rw [add_block]; exact hn372_2) | exact hn372_2) (.int .i64 ((rd_T43 l0 x13_1).f2))).trans hx372_2; clear hn372_0 hn372_1 hn372_2; replace p372 := eq_true p372; replace q372 := eq_true q372) | ((with_reducible refine gate_dst (N := 9) rfl ?_); refine box_eventD ?hg (N := 9) ?hd (cs := #[.int .i64 0, .int .i64 0, .int .i64 0]) (t := 43) ?hr ?_; (case hd => rfl); (case hg => rfl); (case hr => first | (go_simp; done) | (go_simp; rfl)); intro gb373 hg w22 hbox hb; have n0_ := aM (blk_belG (g := gb371) (o := .cells #[.int .i64 ((rd_T43 l0 x13_1).f0), .int .i64 ((rd_T43 l0 x13_1).f1), .int .i64 ((rd_T43 l0 x13_1).f2)] 43 (0, 0)) (by (with_reducible repeat (first | refine blk_drewN ?_ _ | refine blk_drew ?_ | refine blk_alloc ?_ _)); refine blk_put (cs := #[.int .i64 ((rd_T43 l0 x13_1).f0), .int .i64 ((rd_T43 l0 x13_1).f1), .int .i64 0]) ?_ 2 _ rfl; (with_reducible repeat (first | refine blk_drewN ?_ _ | refine blk_drew ?_ | refine blk_alloc ?_ _)); refine blk_put (cs := #[.int .i64 ((rd_T43 l0 x13_1).f0), .int .i64 0, .int .i64 0]) ?_ 1 _ rfl; (with_reducible repeat (first | refine blk_drewN ?_ _ | refine blk_drew ?_ | refine blk_alloc ?_ _)); refine blk_put (cs := #[.int .i64 0, .int .i64 0, .int .i64 0]) ?_ 0 _ rfl; (with_reducible repeat (first | refine blk_drewN ?_ _ | refine blk_drew ?_ | refine blk_alloc ?_ _)); exact BK371.out) hb); have n1_ := aM (belG_step (zh GE371.out) hb); have n2_ := aM (hbox); have n3_ := aM ((zj GE371.out : w.heap.size ≤ gb373)); have n4_ := aM ((zj GE371.out : w.heap.size ≤ gb373)); have n5_ := aM ((by rw [hg]; exact Nat.ne_of_lt (blk_lt (g := gb371) (o := .cells #[.int .i64 ((rd_T43 l0 x13_1).f0), .int .i64 ((rd_T43 l0 x13_1).f1), .int .i64 ((rd_T43 l0 x13_1).f2)] 43 (0, 0)) (by (with_reducible repeat (first | refine blk_drewN ?_ _ | refine blk_drew ?_ | refine blk_alloc ?_ _)); refine blk_put (cs := #[.int .i64 ((rd_T43 l0 x13_1).f0), .int .i64 ((rd_T43 l0 x13_1).f1), .int .i64 0]) ?_ 2 _ rfl; (with_reducible repeat (first | refine blk_drewN ?_ _ | refine blk_drew ?_ | refine blk_alloc ?_ _)); refine blk_put (cs := #[.int .i64 ((rd_T43 l0 x13_1).f0), .int .i64 0, .int .i64 0]) ?_ 1 _ rfl; (with_reducible repeat (first | refine blk_drewN ?_ _ | refine blk_drew ?_ | refine blk_alloc ?_ _)); refine blk_put (cs := #[.int .i64 0, .int .i64 0, .int .i64 0]) ?_ 0 _ rfl; (with_reducible repeat (first | refine blk_drewN ?_ _ | refine blk_drew ?_ | refine blk_alloc ?_ _)); exact BK371.out)) : gb371 ≠ gb373)); have n6_ := aM ((by rw [hg]; exact Nat.ne_of_gt (blk_lt (g := gb371) (o := .cells #[.int .i64 ((rd_T43 l0 x13_1).f0), .int .i64 ((rd_T43 l0 x13_1).f1), .int .i64 ((rd_T43 l0 x13_1).f2)] 43 (0, 0)) (by (with_reducible repeat (first | refine blk_drewN ?_ _ | refine blk_drew ?_ | refine blk_alloc ?_ _)); refine blk_put (cs := #[.int .i64 ((rd_T43 l0 x13_1).f0), .int .i64 ((rd_T43 l0 x13_1).f1), .int .i64 0]) ?_ 2 _ rfl; (with_reducible repeat (first | refine blk_drewN ?_ _ | refine blk_drew ?_ | refine blk_alloc ?_ _)); refine blk_put (cs := #[.int .i64 ((rd_T43 l0 x13_1).f0), .int .i64 0, .int .i64 0]) ?_ 1 _ rfl; (with_reducible repeat (first | refine blk_drewN ?_ _ | refine blk_drew ?_ | refine blk_alloc ?_ _)); refine blk_put (cs := #[.int .i64 0, .int .i64 0, .int .i64 0]) ?_ 0 _ rfl; (with_reducible repeat (first | refine blk_drewN ?_ _ | refine blk_drew ?_ | refine blk_alloc ?_ _)); exact BK371.out)) : gb373 ≠ gb371)); clear BK371 HB; have BK371 := n0_; have HB := n1_; have BK373 := n2_; have GW373 := n3_; have GE373 := n4_; have NB371_373 := n5_; have NB373_371 := n6_; clear n0_ n1_ n2_ n3_ n4_ n5_ n6_ hb hbox hg; have hnb23 := NB373_371.out; have hnc23 := NB371_373.out; have hcz24_0 : w22.cell? ⟨gb373, 0, none⟩ = some (.int .i64 0) := (blk_cell BK373.out 0).trans rfl; have hcz24_1 : w22.cell? ⟨gb373, 1, none⟩ = some (.int .i64 0) := (blk_cell BK373.out 1).trans rfl; have hcz24_2 : w22.cell? ⟨gb373, 2, none⟩ = some (.int .i64 0) := (blk_cell BK373.out 2).trans rfl; have hfz24_0 := blk_frozen BK373.out 0; have hfz24_1 := blk_frozen BK373.out 1; have hfz24_2 := blk_frozen BK373.out 2; have hcz25_0 : w22.cell? ⟨gb371, 0, none⟩ = some (.int .i64 ((rd_T43 l0 x13_1).f0)) := (blk_cell BK371.out 0).trans rfl; have hcz25_1 : w22.cell? ⟨gb371, 1, none⟩ = some (.int .i64 ((rd_T43 l0 x13_1).f1)) := (blk_cell BK371.out 1).trans rfl; have hcz25_2 : w22.cell? ⟨gb371, 2, none⟩ = some (.int .i64 ((rd_T43 l0 x13_1).f2)) := (blk_cell BK371.out 2).trans rfl; have hfz25_0 := blk_frozen BK371.out 0; have hfz25_1 := blk_frozen BK371.out 1; have hfz25_2 := blk_frozen BK371.out 2) | (go_at_call 38; (with_reducible refine (impl_compareCubes.callsG ((rd_T43 l0 x13_1).f0) ((rd_T43 l0 x13_1).f1) ((rd_T43 l0 x13_1).f2) ((rd_T43 l1 x13_1).f0) ((rd_T43 l1 x13_1).f1) ((rd_T43 l1 x13_1).f2) t374 _ A11.out).mono ?_); rintro e w26 ⟨rfl, hb⟩; have n0_ := aM (blk_belG (g := gb371) (o := .cells #[.int .i64 ((rd_T43 l0 x13_1).f0), .int .i64 ((rd_T43 l0 x13_1).f1), .int .i64 ((rd_T43 l0 x13_1).f2)] 43 (0, 0)) (by (with_reducible repeat (first | refine blk_drewN ?_ _ | refine blk_drew ?_ | refine blk_alloc ?_ _)); refine blk_far ?_ NB371_373.out _; (with_reducible repeat (first | refine blk_drewN ?_ _ | refine blk_drew ?_ | refine blk_alloc ?_ _)); refine blk_far ?_ NB371_373.out _; (with_reducible repeat (first | refine blk_drewN ?_ _ | refine blk_drew ?_ | refine blk_alloc ?_ _)); refine blk_far ?_ NB371_373.out _; (with_reducible repeat (first | refine blk_drewN ?_ _ | refine blk_drew ?_ | refine blk_alloc ?_ _)); exact BK371.out) hb); have n1_ := aM (blk_belG (g := gb373) (o := .cells #[.int .i64 ((rd_T43 l1 x13_1).f0), .int .i64 ((rd_T43 l1 x13_1).f1), .int .i64 ((rd_T43 l1 x13_1).f2)] 43 (0, 0)) (by (with_reducible repeat (first | refine blk_drewN ?_ _ | refine blk_drew ?_ | refine blk_alloc ?_ _)); refine blk_put (cs := #[.int .i64 ((rd_T43 l1 x13_1).f0), .int .i64 ((rd_T43 l1 x13_1).f1), .int .i64 0]) ?_ 2 _ rfl; (with_reducible repeat (first | refine blk_drewN ?_ _ | refine blk_drew ?_ | refine blk_alloc ?_ _)); refine blk_put (cs := #[.int .i64 ((rd_T43 l1 x13_1).f0), .int .i64 0, .int .i64 0]) ?_ 1 _ rfl; (with_reducible repeat (first | refine blk_drewN ?_ _ | refine blk_drew ?_ | refine blk_alloc ?_ _)); refine blk_put (cs := #[.int .i64 0, .int .i64 0, .int .i64 0]) ?_ 0 _ rfl; (with_reducible repeat (first | refine blk_drewN ?_ _ | refine blk_drew ?_ | refine blk_alloc ?_ _)); exact BK373.out) hb); have n2_ := aM (belG_step (by repeat (first | (with_reducible first | exact HB.out | apply belG_alloc | apply pw_belG_drewN | apply belG_drew1 | refine belG_set ?_ GE371.out | refine belG_set ?_ GE373.out) | exact HB.out)) hb); clear BK371 BK373 HB; have BK371 := n0_; have BK373 := n1_; have HB := n2_; clear n0_ n1_ n2_; (try clear hb); (try clear hb2); (try clear hk); (try clear hi)))
    go_ret
    exact ⟨zw, by repeat (first | (with_reducible first | exact HB.out | apply belG_alloc | apply pw_belG_drewN | apply belG_drew1 | refine belG_set ?_ GE371.out | refine belG_set ?_ GE373.out) | exact HB.out)⟩
   rw [if_pos c12] at H
   have c12b0 : (t374 == 0) = true := beq_iff_eq.mpr c12
   have c12b1 : (t374 != 0) = false := bne_eq_false_iff_eq.mpr c12
   clear c12
   have H' := aM H
   clear H
   have p370 : 0 ≤ (x13_1 : Int) := of_decide_eq_true za
   have q370 : x13_1 < (l0.length : Int) := of_decide_eq_true za
   obtain ⟨ad370, e370, hx370_0, hx370_1, hx370_2⟩ := at_T43 HR0.out x13_1 p370 q370
   cases e370
   replace hx370_0 := (HB.out.cell (World.block_lt_of_cell? w _ hx370_0)).trans hx370_0
   replace hx370_1 := (HB.out.cell (World.block_lt_of_cell? w _ hx370_1)).trans hx370_1
   replace hx370_2 := (HB.out.cell (World.block_lt_of_cell? w _ hx370_2)).trans hx370_2
   replace p370 := eq_true p370
   replace q370 := eq_true q370
   go_wp2_with (first | ((with_reducible refine gate_dst (N := 8) rfl ?_); refine box_eventD ?hg (N := 8) ?hd (cs := #[.int .i64 0, .int .i64 0, .int .i64 0]) (t := 43) ?hr ?_; (case hd => rfl); (case hg => rfl); (case hr => first | (go_simp; done) | (go_simp; rfl)); intro gb371 hg w13 hbox hb; have n0_ := aM (belG_step zg hb); have n1_ := aM (hbox); have n2_ := aM ((zi : w.heap.size ≤ gb371)); have n3_ := aM ((zi : w.heap.size ≤ gb371)); clear HB; have HB := n0_; have BK371 := n1_; have GW371 := n2_; have GE371 := n3_; clear n0_ n1_ n2_ n3_ hb hbox hg; have hcz14_0 : w13.cell? ⟨gb371, 0, none⟩ = some (.int .i64 0) := (blk_cell BK371.out 0).trans rfl; have hcz14_1 : w13.cell? ⟨gb371, 1, none⟩ = some (.int .i64 0) := (blk_cell BK371.out 1).trans rfl; have hcz14_2 : w13.cell? ⟨gb371, 2, none⟩ = some (.int .i64 0) := (blk_cell BK371.out 2).trans rfl; have hfz14_0 := blk_frozen BK371.out 0; have hfz14_1 := blk_frozen BK371.out 1; have hfz14_2 := blk_frozen BK371.out 2; have p372 : 0 ≤ (x13_1 : Int) := of_decide_eq_true za; have q372 : x13_1 < (l1.length : Int) := of_decide_eq_true za; obtain ⟨ad372, e372, hx372_0, hx372_1, hx372_2⟩ := at_T43 HR1.out x13_1 p372 q372; cases e372; have hn372_0 : ad372.block ≠ gb371 := Nat.ne_of_lt (Nat.lt_of_lt_of_le (by have := World.block_lt_of_cell? _ _ hx372_0; first | rwa [add_block] at this | exact this) GW371.out); have hn372_1 : ad372.block ≠ gb371 := Nat.ne_of_lt (Nat.lt_of_lt_of_le (by have := World.block_lt_of_cell? _ _ hx372_0; first | rwa [add_block] at this | exact this) GW371.out); have hn372_2 : ad372.block ≠ gb371 := Nat.ne_of_lt (Nat.lt_of_lt_of_le (by have := World.block_lt_of_cell? _ _ hx372_0; first | rwa [add_block] at this | exact this) GW371.out); replace hx372_0 := (HB.out.cell (World.block_lt_of_cell? w _ hx372_0)).trans hx372_0; replace hx372_1 := (HB.out.cell (World.block_lt_of_cell? w _ hx372_1)).trans hx372_1; replace hx372_2 := (HB.out.cell (World.block_lt_of_cell? w _ hx372_2)).trans hx372_2; replace hx372_0 := (cell_far (p := ⟨gb371, 0, none⟩) (by first | (rw [add_block]; exact hn372_0) | (show (Addr.add _ _).block ≠ _; rw [add_block]; exact hn372_0) | exact hn372_0) (.int .i64 ((rd_T43 l0 x13_1).f0))).trans hx372_0; replace hx372_1 := (cell_far (p := ⟨gb371, 0, none⟩) (by first | (rw [add_block]; exact hn372_0) | (show (Addr.add _ _).block ≠ _; rw [add_block]; exact hn372_0) | exact hn372_0) (.int .i64 ((rd_T43 l0 x13_1).f0))).trans hx372_1; replace hx372_2 := (cell_far (p := ⟨gb371, 0, none⟩) (by first | (rw [add_block]; exact hn372_0) | (show (Addr.add _ _).block ≠ _; rw [add_block]; exact hn372_0) | exact hn372_0) (.int .i64 ((rd_T43 l0 x13_1).f0))).trans hx372_2; replace hx372_0 := (cell_far (p := ⟨gb371, 1, none⟩) (by first | (rw [add_block]; exact hn372_1) | (show (Addr.add _ _).block ≠ _; rw [add_block]; exact hn372_1) | exact hn372_1) (.int .i64 ((rd_T43 l0 x13_1).f1))).trans hx372_0; replace hx372_1 := (cell_far (p := ⟨gb371, 1, none⟩) (by first | (rw [add_block]; exact hn372_1) | (show (Addr.add _ _).block ≠ _; rw [add_block]; exact hn372_1) | exact hn372_1) (.int .i64 ((rd_T43 l0 x13_1).f1))).trans hx372_1; replace hx372_2 := (cell_far (p := ⟨gb371, 1, none⟩) (by first | (rw [add_block]; exact hn372_1) | (show (Addr.add _ _).block ≠ _; rw [add_block]; exact hn372_1) | exact hn372_1) (.int .i64 ((rd_T43 l0 x13_1).f1))).trans hx372_2; replace hx372_0 := (cell_far (p := ⟨gb371, 2, none⟩) (by first | (rw [add_block]; exact hn372_2) | (show (Addr.add _ _).block ≠ _; rw [add_block]; exact hn372_2) | exact hn372_2) (.int .i64 ((rd_T43 l0 x13_1).f2))).trans hx372_0; replace hx372_1 := (cell_far (p := ⟨gb371, 2, none⟩) (by first | (rw [add_block]; exact hn372_2) | (show (Addr.add _ _).block ≠ _; rw [add_block]; exact hn372_2) | exact hn372_2) (.int .i64 ((rd_T43 l0 x13_1).f2))).trans hx372_1; replace hx372_2 := (cell_far (p := ⟨gb371, 2, none⟩) (by first | (rw [add_block]; exact hn372_2) | (show (Addr.add _ _).block ≠ _; rw [add_block]; exact hn372_2) | exact hn372_2) (.int .i64 ((rd_T43 l0 x13_1).f2))).trans hx372_2; clear hn372_0 hn372_1 hn372_2; replace p372 := eq_true p372; replace q372 := eq_true q372) | ((with_reducible refine gate_dst (N := 9) rfl ?_); refine box_eventD ?hg (N := 9) ?hd (cs := #[.int .i64 0, .int .i64 0, .int .i64 0]) (t := 43) ?hr ?_; (case hd => rfl); (case hg => rfl); (case hr => first | (go_simp; done) | (go_simp; rfl)); intro gb373 hg w15 hbox hb; have n0_ := aM (blk_belG (g := gb371) (o := .cells #[.int .i64 ((rd_T43 l0 x13_1).f0), .int .i64 ((rd_T43 l0 x13_1).f1), .int .i64 ((rd_T43 l0 x13_1).f2)] 43 (0, 0)) (by (with_reducible repeat (first | refine blk_drewN ?_ _ | refine blk_drew ?_ | refine blk_alloc ?_ _)); refine blk_put (cs := #[.int .i64 ((rd_T43 l0 x13_1).f0), .int .i64 ((rd_T43 l0 x13_1).f1), .int .i64 0]) ?_ 2 _ rfl; (with_reducible repeat (first | refine blk_drewN ?_ _ | refine blk_drew ?_ | refine blk_alloc ?_ _)); refine blk_put (cs := #[.int .i64 ((rd_T43 l0 x13_1).f0), .int .i64 0, .int .i64 0]) ?_ 1 _ rfl; (with_reducible repeat (first | refine blk_drewN ?_ _ | refine blk_drew ?_ | refine blk_alloc ?_ _)); refine blk_put (cs := #[.int .i64 0, .int .i64 0, .int .i64 0]) ?_ 0 _ rfl; (with_reducible repeat (first | refine blk_drewN ?_ _ | refine blk_drew ?_ | refine blk_alloc ?_ _)); exact BK371.out) hb); have n1_ := aM (belG_step (zh GE371.out) hb); have n2_ := aM (hbox); have n3_ := aM ((zj GE371.out : w.heap.size ≤ gb373)); have n4_ := aM ((zj GE371.out : w.heap.size ≤ gb373)); have n5_ := aM ((by rw [hg]; exact Nat.ne_of_lt (blk_lt (g := gb371) (o := .cells #[.int .i64 ((rd_T43 l0 x13_1).f0), .int .i64 ((rd_T43 l0 x13_1).f1), .int .i64 ((rd_T43 l0 x13_1).f2)] 43 (0, 0)) (by (with_reducible repeat (first | refine blk_drewN ?_ _ | refine blk_drew ?_ | refine blk_alloc ?_ _)); refine blk_put (cs := #[.int .i64 ((rd_T43 l0 x13_1).f0), .int .i64 ((rd_T43 l0 x13_1).f1), .int .i64 0]) ?_ 2 _ rfl; (with_reducible repeat (first | refine blk_drewN ?_ _ | refine blk_drew ?_ | refine blk_alloc ?_ _)); refine blk_put (cs := #[.int .i64 ((rd_T43 l0 x13_1).f0), .int .i64 0, .int .i64 0]) ?_ 1 _ rfl; (with_reducible repeat (first | refine blk_drewN ?_ _ | refine blk_drew ?_ | refine blk_alloc ?_ _)); refine blk_put (cs := #[.int .i64 0, .int .i64 0, .int .i64 0]) ?_ 0 _ rfl; (with_reducible repeat (first | refine blk_drewN ?_ _ | refine blk_drew ?_ | refine blk_alloc ?_ _)); exact BK371.out)) : gb371 ≠ gb373)); have n6_ := aM ((by rw [hg]; exact Nat.ne_of_gt (blk_lt (g := gb371) (o := .cells #[.int .i64 ((rd_T43 l0 x13_1).f0), .int .i64 ((rd_T43 l0 x13_1).f1), .int .i64 ((rd_T43 l0 x13_1).f2)] 43 (0, 0)) (by (with_reducible repeat (first | refine blk_drewN ?_ _ | refine blk_drew ?_ | refine blk_alloc ?_ _)); refine blk_put (cs := #[.int .i64 ((rd_T43 l0 x13_1).f0), .int .i64 ((rd_T43 l0 x13_1).f1), .int .i64 0]) ?_ 2 _ rfl; (with_reducible repeat (first | refine blk_drewN ?_ _ | refine blk_drew ?_ | refine blk_alloc ?_ _)); refine blk_put (cs := #[.int .i64 ((rd_T43 l0 x13_1).f0), .int .i64 0, .int .i64 0]) ?_ 1 _ rfl; (with_reducible repeat (first | refine blk_drewN ?_ _ | refine blk_drew ?_ | refine blk_alloc ?_ _)); refine blk_put (cs := #[.int .i64 0, .int .i64 0, .int .i64 0]) ?_ 0 _ rfl; (with_reducible repeat (first | refine blk_drewN ?_ _ | refine blk_drew ?_ | refine blk_alloc ?_ _)); exact BK371.out)) : gb373 ≠ gb371)); clear BK371 HB; have BK371 := n0_; have HB := n1_; have BK373 := n2_; have GW373 := n3_; have GE373 := n4_; have NB371_373 := n5_; have NB373_371 := n6_; clear n0_ n1_ n2_ n3_ n4_ n5_ n6_ hb hbox hg; have hnb16 := NB373_371.out; have hnc16 := NB371_373.out; have hcz17_0 : w15.cell? ⟨gb373, 0, none⟩ = some (.int .i64 0) := (blk_cell BK373.out 0).trans rfl; have hcz17_1 : w15.cell? ⟨gb373, 1, none⟩ = some (.int .i64 0) := (blk_cell BK373.out 1).trans rfl; have hcz17_2 : w15.cell? ⟨gb373, 2, none⟩ = some (.int .i64 0) := (blk_cell BK373.out 2).trans rfl; have hfz17_0 := blk_frozen BK373.out 0; have hfz17_1 := blk_frozen BK373.out 1; have hfz17_2 := blk_frozen BK373.out 2; have hcz18_0 : w15.cell? ⟨gb371, 0, none⟩ = some (.int .i64 ((rd_T43 l0 x13_1).f0)) := (blk_cell BK371.out 0).trans rfl; have hcz18_1 : w15.cell? ⟨gb371, 1, none⟩ = some (.int .i64 ((rd_T43 l0 x13_1).f1)) := (blk_cell BK371.out 1).trans rfl; have hcz18_2 : w15.cell? ⟨gb371, 2, none⟩ = some (.int .i64 ((rd_T43 l0 x13_1).f2)) := (blk_cell BK371.out 2).trans rfl; have hfz18_0 := blk_frozen BK371.out 0; have hfz18_1 := blk_frozen BK371.out 1; have hfz18_2 := blk_frozen BK371.out 2) | (go_at_call 38; (with_reducible refine (impl_compareCubes.callsG ((rd_T43 l0 x13_1).f0) ((rd_T43 l0 x13_1).f1) ((rd_T43 l0 x13_1).f2) ((rd_T43 l1 x13_1).f0) ((rd_T43 l1 x13_1).f1) ((rd_T43 l1 x13_1).f2) t374 _ A11.out).mono ?_); rintro e w19 ⟨rfl, hb⟩; have n0_ := aM (blk_belG (g := gb371) (o := .cells #[.int .i64 ((rd_T43 l0 x13_1).f0), .int .i64 ((rd_T43 l0 x13_1).f1), .int .i64 ((rd_T43 l0 x13_1).f2)] 43 (0, 0)) (by (with_reducible repeat (first | refine blk_drewN ?_ _ | refine blk_drew ?_ | refine blk_alloc ?_ _)); refine blk_far ?_ NB371_373.out _; (with_reducible repeat (first | refine blk_drewN ?_ _ | refine blk_drew ?_ | refine blk_alloc ?_ _)); refine blk_far ?_ NB371_373.out _; (with_reducible repeat (first | refine blk_drewN ?_ _ | refine blk_drew ?_ | refine blk_alloc ?_ _)); refine blk_far ?_ NB371_373.out _; (with_reducible repeat (first | refine blk_drewN ?_ _ | refine blk_drew ?_ | refine blk_alloc ?_ _)); exact BK371.out) hb); have n1_ := aM (blk_belG (g := gb373) (o := .cells #[.int .i64 ((rd_T43 l1 x13_1).f0), .int .i64 ((rd_T43 l1 x13_1).f1), .int .i64 ((rd_T43 l1 x13_1).f2)] 43 (0, 0)) (by (with_reducible repeat (first | refine blk_drewN ?_ _ | refine blk_drew ?_ | refine blk_alloc ?_ _)); refine blk_put (cs := #[.int .i64 ((rd_T43 l1 x13_1).f0), .int .i64 ((rd_T43 l1 x13_1).f1), .int .i64 0]) ?_ 2 _ rfl; (with_reducible repeat (first | refine blk_drewN ?_ _ | refine blk_drew ?_ | refine blk_alloc ?_ _)); refine blk_put (cs := #[.int .i64 ((rd_T43 l1 x13_1).f0), .int .i64 0, .int .i64 0]) ?_ 1 _ rfl; (with_reducible repeat (first | refine blk_drewN ?_ _ | refine blk_drew ?_ | refine blk_alloc ?_ _)); refine blk_put (cs := #[.int .i64 0, .int .i64 0, .int .i64 0]) ?_ 0 _ rfl; (with_reducible repeat (first | refine blk_drewN ?_ _ | refine blk_drew ?_ | refine blk_alloc ?_ _)); exact BK373.out) hb); have n2_ := aM (belG_step (by repeat (first | (with_reducible first | exact HB.out | apply belG_alloc | apply pw_belG_drewN | apply belG_drew1 | refine belG_set ?_ GE371.out | refine belG_set ?_ GE373.out) | exact HB.out)) hb); clear BK371 BK373 HB; have BK371 := n0_; have BK373 := n1_; have HB := n2_; clear n0_ n1_ n2_; (try clear hb); (try clear hb2); (try clear hk); (try clear hi)))
   go_roundg k1
   case measure => have := HK1.out; omega
   case rel => exact ⟨(wrap64 (x13_1 + 1)), zr, H', ⟨by have := HK1.out; omega⟩, ⟨by repeat (first | (with_reducible first | exact HB.out | apply belG_alloc | apply pw_belG_drewN | apply belG_drew1 | refine belG_set ?_ GE371.out | refine belG_set ?_ GE373.out) | exact HB.out)⟩⟩
def impl_compareSolids.f (k : Nat) (l0 : List (S43)) (l1 : List (S43)) : Option (Int) := (cmp_Compare_int.f (l0.length : Int) (l1.length : Int)).bind fun t375 => (if t375 = 0 then ((impl_Cube_59__impl_compareCubes.f k l0 l1).bind fun t376 => (some t376)) else (some t375))
theorem impl_compareSolids.calls (k : Nat) (A0 : Option Addr) (c0 : Nat) (l0 : List (S43)) (A1 : Option Addr) (c1 : Nat) (l1 : List (S43)) (r : Int) (w : World) (hr0 : Kd.C k43 w A0 l0.length l0) (hc0 : l0.length ≤ c0) (hr1 : Kd.C k43 w A1 l1.length l1) (hc1 : l1.length ≤ c1) (h : impl_compareSolids.f k l0 l1 = some r) :
  Calls Try.prog 41 #[.slice A0 l0.length c0, .slice A1 l1.length c1] w fun e w' => e = .returned (.int .i64 r) ∧ Below w.heap.size w w' := by
 have HR0 := aM hr0
 have HC0 := aM hc0
 clear hr0 hc0
 have HR1 := aM hr1
 have HC1 := aM hc1
 clear hr1 hc1
 have HB := aM (Below.refl w.heap.size w)
 have H : ((cmp_Compare_int.f (l0.length : Int) (l1.length : Int)).bind fun t375 => (if t375 = 0 then ((impl_Cube_59__impl_compareCubes.f k l0 l1).bind fun t376 => (some t376)) else (some t375))) = some r := h
 clear h
 replace H := Option.bind_eq_some_iff.mp H
 obtain ⟨t375, A30, H⟩ := H
 replace H : (if t375 = 0 then ((impl_Cube_59__impl_compareCubes.f k l0 l1).bind fun t376 => (some t376)) else (some t375)) = some r := H
 have A3 := aM A30
 clear A30
 by_cases c4 : t375 = 0
 rotate_left
 ·rw [if_neg c4] at H
  have c4b0 : (t375 == 0) = false := beq_eq_false_iff_ne.mpr c4
  have c4b1 : (t375 != 0) = true := bne_iff_ne.mpr c4
  obtain rfl := Option.some.inj H
  go_enter Try.func41, Try.ntmps41
  go_wp2_with (first | ((with_reducible refine gate_callee (f := 58) rfl ?_); refine goesL_ (some 10) rfl rfl Try.func58 (by kernel_rfl) rfl #[.int .i64 (l0.length : Int), .int .i64 (l1.length : Int)] rfl zm ?_; (with_reducible refine (cmp_Compare_int.calls (l0.length : Int) (l1.length : Int) t375 _ A3.out).mono ?_); rintro e w' ⟨rfl, ⟨nd, rfl⟩⟩; refine ⟨_, rfl, ?_⟩))
  go_ret
  exact ⟨zw, zb⟩
 rw [if_pos c4] at H
 have c4b0 : (t375 == 0) = true := beq_iff_eq.mpr c4
 have c4b1 : (t375 != 0) = false := bne_eq_false_iff_eq.mpr c4
 clear c4
 replace H := Option.bind_eq_some_iff.mp H
 obtain ⟨t376, A50, H⟩ := H
 replace H : (some t376) = some r := H
 have A5 := aM A50
 clear A50
 obtain rfl := Option.some.inj H
 go_enter Try.func41, Try.ntmps41
 go_wp2_with (first | ((with_reducible refine gate_callee (f := 58) rfl ?_); refine goesL_ (some 10) rfl rfl Try.func58 (by kernel_rfl) rfl #[.int .i64 (l0.length : Int), .int .i64 (l1.length : Int)] rfl zm ?_; (with_reducible refine (cmp_Compare_int.calls (l0.length : Int) (l1.length : Int) t375 _ A3.out).mono ?_); rintro e w' ⟨rfl, ⟨nd, rfl⟩⟩; refine ⟨_, rfl, ?_⟩) | ((with_reducible refine gate_callee (f := 59) rfl ?_); refine goesL_ (some 16) rfl rfl Try.func59 (by kernel_rfl) rfl #[.slice A0 l0.length c0, .slice A1 l1.length c1, .func (.func 38) #[] #[]] rfl zm ?_; (with_reducible refine (impl_Cube_59__impl_compareCubes.calls k _ _ l0 _ _ l1  t376 _ ?side1 ?side2 ?side3 ?side4 A5.out).mono ?_); (case side1 => repeat (first | exact HR0.out | (with_reducible refine Kd.C_alloc ?_ _) | (with_reducible refine Kd.C_drewN ?_ _) | (with_reducible refine Kd.C_drew ?_))); (case side2 => exact HC0.out); (case side3 => repeat (first | exact HR1.out | (with_reducible refine Kd.C_alloc ?_ _) | (with_reducible refine Kd.C_drewN ?_ _) | (with_reducible refine Kd.C_drew ?_))); (case side4 => exact HC1.out); rintro e w6 ⟨rfl, hb⟩; refine ⟨_, rfl, ?_⟩; have n0_ := aM (below_step zb hb); clear HB; have HB := n0_; clear n0_; (try clear hb); (try clear hb2); (try clear hk); (try clear hi)))
 go_ret
 exact ⟨zw, zb⟩
theorem impl_compareSolids.callsG (k : Nat) (A0 : Option Addr) (c0 : Nat) (l0 : List (S43)) (A1 : Option Addr) (c1 : Nat) (l1 : List (S43)) (r : Int) (w : World) (hr0 : Kd.C k43 w A0 l0.length l0) (hc0 : l0.length ≤ c0) (hr1 : Kd.C k43 w A1 l1.length l1) (hc1 : l1.length ≤ c1) (h : impl_compareSolids.f k l0 l1 = some r) :
  Calls Try.prog 41 #[.slice A0 l0.length c0, .slice A1 l1.length c1] w fun e w' => e = .returned (.int .i64 r) ∧ BelG w.heap.size w w' := by
 have HR0 := aM hr0
 have HC0 := aM hc0
 clear hr0 hc0
 have HR1 := aM hr1
 have HC1 := aM hc1
 clear hr1 hc1
 have HB := aM (BelG.refl w.heap.size w)
 have H : ((cmp_Compare_int.f (l0.length : Int) (l1.length : Int)).bind fun t375 => (if t375 = 0 then ((impl_Cube_59__impl_compareCubes.f k l0 l1).bind fun t376 => (some t376)) else (some t375))) = some r := h
 clear h
 replace H := Option.bind_eq_some_iff.mp H
 obtain ⟨t375, A30, H⟩ := H
 replace H : (if t375 = 0 then ((impl_Cube_59__impl_compareCubes.f k l0 l1).bind fun t376 => (some t376)) else (some t375)) = some r := H
 have A3 := aM A30
 clear A30
 by_cases c4 : t375 = 0
 rotate_left
 ·rw [if_neg c4] at H
  have c4b0 : (t375 == 0) = false := beq_eq_false_iff_ne.mpr c4
  have c4b1 : (t375 != 0) = true := bne_iff_ne.mpr c4
  obtain rfl := Option.some.inj H
  go_enter Try.func41, Try.ntmps41
  go_wp2_with (first | ((with_reducible refine gate_callee (f := 58) rfl ?_); refine goesL_ (some 10) rfl rfl Try.func58 (by kernel_rfl) rfl #[.int .i64 (l0.length : Int), .int .i64 (l1.length : Int)] rfl zm ?_; (with_reducible refine (cmp_Compare_int.calls (l0.length : Int) (l1.length : Int) t375 _ A3.out).mono ?_); rintro e w' ⟨rfl, ⟨nd, rfl⟩⟩; refine ⟨_, rfl, ?_⟩))
  go_ret
  exact ⟨zw, zg⟩
 rw [if_pos c4] at H
 have c4b0 : (t375 == 0) = true := beq_iff_eq.mpr c4
 have c4b1 : (t375 != 0) = false := bne_eq_false_iff_eq.mpr c4
 clear c4
 replace H := Option.bind_eq_some_iff.mp H
 obtain ⟨t376, A50, H⟩ := H
 replace H : (some t376) = some r := H
 have A5 := aM A50
 clear A50
 obtain rfl := Option.some.inj H
 go_enter Try.func41, Try.ntmps41
 go_wp2_with (first | ((with_reducible refine gate_callee (f := 58) rfl ?_); refine goesL_ (some 10) rfl rfl Try.func58 (by kernel_rfl) rfl #[.int .i64 (l0.length : Int), .int .i64 (l1.length : Int)] rfl zm ?_; (with_reducible refine (cmp_Compare_int.calls (l0.length : Int) (l1.length : Int) t375 _ A3.out).mono ?_); rintro e w' ⟨rfl, ⟨nd, rfl⟩⟩; refine ⟨_, rfl, ?_⟩) | ((with_reducible refine gate_callee (f := 59) rfl ?_); refine goesL_ (some 16) rfl rfl Try.func59 (by kernel_rfl) rfl #[.slice A0 l0.length c0, .slice A1 l1.length c1, .func (.func 38) #[] #[]] rfl zm ?_; (with_reducible refine (impl_Cube_59__impl_compareCubes.callsG k _ _ l0 _ _ l1  t376 _ ?side1 ?side2 ?side3 ?side4 A5.out).mono ?_); (case side1 => repeat (first | exact HR0.out | (with_reducible refine Kd.C_alloc ?_ _) | (with_reducible refine Kd.C_drewN ?_ _) | (with_reducible refine Kd.C_drew ?_))); (case side2 => exact HC0.out); (case side3 => repeat (first | exact HR1.out | (with_reducible refine Kd.C_alloc ?_ _) | (with_reducible refine Kd.C_drewN ?_ _) | (with_reducible refine Kd.C_drew ?_))); (case side4 => exact HC1.out); rintro e w6 ⟨rfl, hb⟩; refine ⟨_, rfl, ?_⟩; have n0_ := aM (belG_step zg hb); clear HB; have HB := n0_; clear n0_; (try clear hb); (try clear hb2); (try clear hk); (try clear hi)))
 go_ret
 exact ⟨zw, zg⟩
end Go.Proofs.Ytlompfboheiliaa.F
end
section
namespace Go.Proofs.Ytlompfboheiliaa.F
open Go.RowKit Go.Proofs.YtlompfboheiliaaW.PrintWords Go.Proofs.YtlompfboheiliaaW.PrintLast Go.Proofs.YtlompfboheiliaaW.PrintMore
attribute [local go_sem] max2_int min2_int max_two min_two max_three min_three max_four min_four
set_option linter.unusedVariables false
set_option linter.unusedSimpArgs false
def sortS_lays_ren : Go.Shelf.Ren := ⟨fun | 6 => 40 | 15 => 54 | 14 => 57 | 28 => 70 | 29 => 71 | 20 => 73 | 21 => 74 | 22 => 75 | 23 => 76 | 24 => 77 | 25 => 78 | 26 => 79 | 27 => 80 | 46 => 88 | 47 => 84 | 48 => 85 | 49 => 89 | 50 => 90 | 57 => 92 | n => n, fun | 22 => 28 | 24 => 40 | 25 => 57 | 3 => 3 | 39 => 69 | 0 => 0 | 53 => 89 | 55 => 91 | 4 => 4 | 46 => 82 | 45 => 81 | 50 => 86 | 5 => 5 | 9 => 9 | 66 => 98 | 70 => 102 | 76 => 106 | 77 => 107 | n => n, fun n => n⟩
theorem sortS_lays : SlLaysF.n6 Try.prog sortS_lays_ren where
  mixed := by kernel_rfl
  f6 := ⟨Try.f40.name, by kernel_rfl, Try.func40.trans (congrArg some (by kernel_rfl))⟩
  f14 := ⟨Try.f57.name, by kernel_rfl, Try.func57.trans (congrArg some (by kernel_rfl))⟩
  f15 := Try.func54.trans (congrArg some (by kernel_rfl))
  f20 := ⟨Try.f73.name, by kernel_rfl, Try.func73.trans (congrArg some (by kernel_rfl))⟩
  f21 := ⟨Try.f74.name, by kernel_rfl, Try.func74.trans (congrArg some (by kernel_rfl))⟩
  f22 := ⟨Try.f75.name, by kernel_rfl, Try.func75.trans (congrArg some (by kernel_rfl))⟩
  f23 := ⟨Try.f76.name, by kernel_rfl, Try.func76.trans (congrArg some (by kernel_rfl))⟩
  f24 := ⟨Try.f77.name, by kernel_rfl, Try.func77.trans (congrArg some (by kernel_rfl))⟩
  f25 := ⟨Try.f78.name, by kernel_rfl, Try.func78.trans (congrArg some (by kernel_rfl))⟩
  f26 := ⟨Try.f79.name, by kernel_rfl, Try.func79.trans (congrArg some (by kernel_rfl))⟩
  f27 := ⟨Try.f80.name, by kernel_rfl, Try.func80.trans (congrArg some (by kernel_rfl))⟩
  f28 := Try.func70.trans (congrArg some (by kernel_rfl))
  f29 := Try.func71.trans (congrArg some (by kernel_rfl))
  f46 := ⟨Try.f88.name, by kernel_rfl, Try.func88.trans (congrArg some (by kernel_rfl))⟩
  f47 := Try.func84.trans (congrArg some (by kernel_rfl))
  f48 := Try.func85.trans (congrArg some (by kernel_rfl))
  f49 := ⟨Try.f89.name, by kernel_rfl, Try.func89.trans (congrArg some (by kernel_rfl))⟩
  f50 := ⟨Try.f90.name, by kernel_rfl, Try.func90.trans (congrArg some (by kernel_rfl))⟩
  f57 := ⟨Try.f92.name, by kernel_rfl, Try.func92.trans (congrArg some (by kernel_rfl))⟩
  t0 := Try.underlying0
  a0 := Try.isAgg0
  z0 := Try.sizeOf0
  v0 := Try.zeroValue0
  t3 := Try.underlying3
  a3 := Try.isAgg3
  z3 := Try.sizeOf3
  v3 := Try.zeroValue3
  t4 := Try.underlying4
  a4 := Try.isAgg4
  z4 := Try.sizeOf4
  v4 := Try.zeroValue4
  t5 := Try.underlying5
  a5 := Try.isAgg5
  z5 := Try.sizeOf5
  v5 := Try.zeroValue5
  t9 := Try.underlying9
  a9 := Try.isAgg9
  z9 := Try.sizeOf9
  v9 := Try.zeroValue9
  t22 := Try.underlying28
  a22 := Try.isAgg28
  z22 := Try.sizeOf28
  v22 := Try.zeroValue28
  a24 := Try.isAgg40
  z24 := Try.sizeOf40
  t25 := Try.underlying57
  a25 := Try.isAgg57
  z25 := Try.sizeOf57
  v25 := Try.zeroValue57
  t39 := Try.underlying69
  a39 := Try.isAgg69
  z39 := Try.sizeOf69
  v39 := Try.zeroValue69
  t45 := Try.underlying81
  a45 := Try.isAgg81
  z45 := Try.sizeOf81
  v45 := Try.zeroValue81
  t46 := Try.underlying82
  a46 := Try.isAgg82
  z46 := Try.sizeOf82
  v46 := Try.zeroValue82
  t50 := Try.underlying86
  a50 := Try.isAgg86
  z50 := Try.sizeOf86
  v50 := Try.zeroValue86
  t53 := Try.underlying89
  a53 := Try.isAgg89
  z53 := Try.sizeOf89
  v53 := Try.zeroValue89
  t55 := Try.underlying91
  a55 := Try.isAgg91
  z55 := Try.sizeOf91
  v55 := Try.zeroValue91
  t66 := Try.underlying98
  a66 := Try.isAgg98
  z66 := Try.sizeOf98
  v66 := Try.zeroValue98
  t70 := Try.underlying102
  a70 := Try.isAgg102
  z70 := Try.sizeOf102
  v70 := Try.zeroValue102
  t76 := Try.underlying106
  a76 := Try.isAgg106
  z76 := Try.sizeOf106
  v76 := Try.zeroValue106
  t77 := Try.underlying107
  a77 := Try.isAgg107
  z77 := Try.sizeOf107
  v77 := Try.zeroValue107
open Go.Sort
def ordL : List S43 → List S43 → Int
  | [], _ => 0
  | _ :: _, [] => 0
  | a :: r, b :: s => if cmpV a b = 0 then ordL r s else cmpV a b
def ordS (a b : List S43) : Int := if a.length = b.length then ordL a b else if a.length < b.length then -1 else 1
theorem cI_self (a : Int) : cI a a = 0 := by unfold cI; simp
theorem cI_anti (a b : Int) : cI b a = -cI a b := by unfold cI; repeat' split
                                                     all_goals omega
theorem cmpV_self (x : S43) : cmpV x x = 0 := by unfold cmpV; simp [cI_self]
theorem cmpV_anti (x y : S43) : cmpV y x = -cmpV x y := by
  unfold cmpV
  have h0 := cI_anti x.f0 y.f0
  have h1 := cI_anti x.f1 y.f1
  try have h2 := cI_anti x.f2 y.f2
  repeat' split
  all_goals omega
theorem lt_iff (x y : S43) : ltOf cmpV x y = false ↔ 0 ≤ cmpV x y := by
  unfold ltOf
  rw [decide_eq_false_iff_not]
  omega
theorem cmpV_zero {x y : S43} (h : cmpV x y = 0) : x = y := antiV x y ((lt_iff x y).2 (by omega)) ((lt_iff y x).2 (by rw [cmpV_anti]; omega))
theorem cmpV_trans {x y z : S43} (h1 : cmpV x y ≤ 0) (h2 : cmpV y z ≤ 0) : cmpV x z ≤ 0 := by
  have h := (lt_iff z x).1 (swoV.ntrans z y x ((lt_iff z y).2 (by rw [cmpV_anti]; omega)) ((lt_iff y x).2 (by rw [cmpV_anti]; omega)))
  rw [cmpV_anti] at h
  omega
theorem ordL_self : ∀ a : List S43, ordL a a = 0
  | [] => rfl
  | a :: r => by unfold ordL; rw [cmpV_self, if_pos rfl, ordL_self r]
theorem ordL_anti : ∀ a b : List S43, a.length = b.length → ordL b a = -ordL a b
  | [], [], _ => rfl
  | [], b :: s, h => by simp at h
  | a :: r, [], h => by simp at h
  | a :: r, b :: s, h => by
    unfold ordL
    have ih := ordL_anti r s (by simpa using h)
    have hc := cmpV_anti a b
    by_cases e : cmpV a b = 0
    · rw [if_pos e, if_pos (by omega)]; exact ih
    · rw [if_neg e, if_neg (by omega)]; exact hc
theorem ordL_zero : ∀ a b : List S43, a.length = b.length → ordL a b = 0 → a = b
  | [], [], _, _ => rfl
  | [], b :: s, h, _ => by simp at h
  | a :: r, [], h, _ => by simp at h
  | a :: r, b :: s, h, h0 => by
    unfold ordL at h0
    by_cases e : cmpV a b = 0
    · rw [if_pos e] at h0
      rw [cmpV_zero e, ordL_zero r s (by simpa using h) h0]
    · rw [if_neg e] at h0
      exact absurd h0 e
theorem ordL_trans : ∀ a b c : List S43, a.length = b.length → b.length = c.length → ordL a b ≤ 0 → ordL b c ≤ 0 → ordL a c ≤ 0
  | [], _, _, _, _, _, _ => by unfold ordL; omega
  | a :: r, [], _, h, _, _, _ => by simp at h
  | a :: r, b :: s, [], _, h, _, _ => by simp at h
  | a :: r, b :: s, c :: t, h1, h2, h3, h4 => by
    unfold ordL at h3 h4 ⊢
    have hab := cmpV_anti a b
    have hbc := cmpV_anti b c
    have hac := cmpV_anti a c
    by_cases e1 : cmpV a b = 0
    · obtain rfl := cmpV_zero e1
      rw [if_pos e1] at h3
      by_cases e2 : cmpV a c = 0
      · rw [if_pos e2] at h4 ⊢
        exact ordL_trans r s t (by simpa using h1) (by simpa using h2) h3 h4
      · rw [if_neg e2] at h4 ⊢
        exact h4
    · rw [if_neg e1] at h3
      by_cases e2 : cmpV b c = 0
      · obtain rfl := cmpV_zero e2
        rw [if_neg e1]
        exact h3
      · rw [if_neg e2] at h4
        have h5 := cmpV_trans h3 h4
        by_cases e3 : cmpV a c = 0
        · obtain rfl := cmpV_zero e3
          omega
        · rw [if_neg e3]
          exact h5
theorem ordS_self (a : List S43) : ordS a a = 0 := by unfold ordS; rw [if_pos rfl, ordL_self]
theorem ordS_anti (a b : List S43) : ordS b a = -ordS a b := by
  unfold ordS
  by_cases e : a.length = b.length
  · rw [if_pos e, if_pos e.symm, ordL_anti a b e]
  · rw [if_neg e, if_neg (fun x => e x.symm)]
    repeat' split
    all_goals omega
theorem ordS_zero {a b : List S43} (h : ordS a b = 0) : a = b := by
  unfold ordS at h
  by_cases e : a.length = b.length
  · rw [if_pos e] at h; exact ordL_zero a b e h
  · rw [if_neg e] at h
    split at h <;> omega
theorem ordS_trans {a b c : List S43} (h1 : ordS a b ≤ 0) (h2 : ordS b c ≤ 0) : ordS a c ≤ 0 := by
  unfold ordS at h1 h2 ⊢
  by_cases e1 : a.length = b.length
  · rw [if_pos e1] at h1
    by_cases e2 : b.length = c.length
    · rw [if_pos e2] at h2
      rw [if_pos (e1.trans e2)]
      exact ordL_trans a b c e1 e2 h1 h2
    · rw [if_neg e2] at h2
      rw [if_neg (by omega)]
      split at h2 <;> split <;> omega
  · rw [if_neg e1] at h1
    by_cases e2 : b.length = c.length
    · rw [if_neg (by omega)]
      split at h1 <;> split <;> omega
    · rw [if_neg e2] at h2
      split at h1
      · split at h2
        · rw [if_neg (by omega), if_pos (by omega)]; omega
        · omega
      · omega
theorem ltS_iff (x y : List S43) : ltOf ordS x y = false ↔ 0 ≤ ordS x y := by
  unfold ltOf
  rw [decide_eq_false_iff_not]
  omega
theorem swoS : SWO (ltOf ordS) where
  irrefl x := by rw [ltS_iff, ordS_self]; omega
  trans x y z h1 h2 := by
    unfold ltOf at *
    rw [decide_eq_true_eq] at *
    have h3 := ordS_trans (a := x) (b := y) (c := z) (by omega) (by omega)
    by_cases e : ordS x z = 0
    · have := ordS_zero e
      subst this
      have := ordS_anti x y
      omega
    · omega
  ntrans x y z h1 h2 := by
    rw [ltS_iff] at *
    have h3 := ordS_trans (a := z) (b := y) (c := x) (by rw [ordS_anti]; omega) (by rw [ordS_anti]; omega)
    rw [ordS_anti] at h3
    omega
theorem antiS (x y : List S43) (h1 : ltOf ordS x y = false) (h2 : ltOf ordS y x = false) : x = y := by
  rw [ltS_iff] at *
  rw [ordS_anti] at h2
  exact ordS_zero (by omega)
def sortS (l : List (List S43)) : List (List S43) := l.mergeSort fun x y => !ltOf ordS y x
instance instDecC : DecidableEq S43 := fun a b => if h : a.f0 = b.f0 ∧ a.f1 = b.f1 ∧ a.f2 = b.f2 then .isTrue (by obtain ⟨a0, a1, a2⟩ := a; obtain ⟨b0, b1, b2⟩ := b; simp_all) else .isFalse (fun e => h (by rw [e]; exact ⟨rfl, rfl, rfl⟩))
structure El (W0 : World) (ok : Nat → Prop) where
  v : Value
  l : List S43
  j : Nat
  has : Kd.FK (Kd.slice 43 k43) W0 ok l [v]
theorem FK_nil0 (W0 : World) (ok : Nat → Prop) : Kd.FK (Kd.slice 43 k43) W0 ok [] [.slice none 0 0] := fun W' _ => ⟨none, 0, rfl, Nat.le_refl _, Kd.C_nil _ _⟩
instance instEl (W0 : World) (ok : Nat → Prop) : Inhabited (El W0 ok) := ⟨⟨.slice none 0 0, [], 0, FK_nil0 _ _⟩⟩
section
variable {W0 w W : World} {ok : Nat → Prop} {base g cap n m : Nat} {os : Array Obj}
theorem El.one (x : El W0 ok) : x.v.oneCell' = true := (Kd.slice 43 k43).K_one (Kd.FK_now x.has) x.v (by simp)
def Same (W0 w : World) (ok : Nat → Prop) : Prop := ∀ k, ok k → k < W0.heap.size → w.heap[k]? = W0.heap[k]?
theorem Same.refl (w : World) (ok : Nat → Prop) : Same w w ok := fun _ _ _ => rfl
theorem Same.grown (h : Same W0 w ok) (hg : w.grownBy W (some g)) (hok : ¬ ok g) : Same W0 W ok := fun k hk hlt =>
  (hg.block k (heap_lt (h k hk hlt) hlt) (fun e => hok (by injection e with e; exact e ▸ hk))).trans (h k hk hlt)
theorem El.now (x : El W0 ok) (h : Same W0 w ok) : ∃ A c, x.v = .slice A x.l.length c ∧ x.l.length ≤ c ∧ Kd.C k43 w A x.l.length x.l := by
  obtain ⟨A, c, e, h1, h2⟩ := Kd.FK_now (Kd.FK_step x.has h)
  exact ⟨A, c, by simpa using e, h1, h2⟩
def cfE (x y : El W0 ok) : Int := ordS x.l y.l
theorem swoE : SWO (ltOf (cfE (W0 := W0) (ok := ok))) where
  irrefl x := swoS.irrefl x.l
  trans x y z := swoS.trans x.l y.l z.l
  ntrans x y z := swoS.ntrans x.l y.l z.l
theorem sortW1_grown {α : Type} [Inhabited α] (enc : α → Value) (w : World) (g n : Nat) (d : Array α) (os : Array Obj) : w.grownBy (sortWorld enc w g 0 n d os) (some g) := by
  refine ⟨rfl, rfl, rfl, ?_, fun k hk hne => ?_⟩
  · show w.heap.size ≤ ((w.heap.modify g _) ++ os).size
    simp
  · show ((w.heap.modify g _) ++ os)[k]? = w.heap[k]?
    rw [Array.getElem?_append_left (by simpa using hk), Array.getElem?_modify, if_neg]
    intro e
    exact hne (by rw [e])
theorem sortW1_heap {α : Type} [Inhabited α] (enc : α → Value) (w : World) (g n : Nat) (d : Array α) (os : Array Obj) {cur : Array Value} {e : TypeId} {fr : Nat × Nat} (h : w.heap[g]? = some (.cells cur e fr)) : (sortWorld enc w g 0 n d os).heap[g]? = some (.cells (Go.Sort.putCells enc 0 d cur) e fr) := by
  have hlt : g < w.heap.size := (Array.getElem?_eq_some_iff.1 h).1
  show ((w.heap.modify g _) ++ os)[g]? = _
  rw [Array.getElem?_append_left (by simpa using hlt), Array.getElem?_modify, if_pos rfl, h]
  rfl
theorem putCells1_take {α : Type} [Inhabited α] (enc : α → Value) (d : Array α) (cur : Array Value) (h : d.size ≤ cur.size) : (Go.Sort.putCells enc 0 d cur).toList.take d.size = d.toList.map enc := by
  apply List.ext_getElem?
  intro i
  by_cases hi : i < d.size
  · rw [List.getElem?_take_of_lt hi]
    simp only [Go.Sort.putCells, Array.getElem?_toList, Array.getElem?_mapIdx, List.getElem?_map]
    rw [Array.getElem?_eq_getElem (show i < cur.size by omega), Array.getElem?_eq_getElem hi, Option.map_some, Option.map_some, if_pos (by omega)]
    simp [getElem!_pos d i hi]
  · rw [List.getElem?_eq_none (by simp; omega), List.getElem?_eq_none (by simp; omega)]
structure At (w : World) (base g cap : Nat) (d : Array (El W0 ok)) : Prop where
  base : base ≤ g
  max : cap ≤ maxLen
  size : d.size ≤ cap
  cells : ∃ cur, w.heap[g]? = some (.cells cur 40 (0, 0)) ∧ cur.size = cap ∧ cur.toList.take d.size = d.toList.map El.v
theorem At.lt {d : Array (El W0 ok)} (h : At w base g cap d) : g < w.heap.size := by
  obtain ⟨cur, h1, _⟩ := h.cells
  exact (Array.getElem?_eq_some_iff.1 h1).1
theorem At.holds {d : Array (El W0 ok)} (h : At w base g cap d) : Holds El.v w g 0 d := by
  obtain ⟨cur, h1, h2, h3⟩ := h.cells
  intro t ht
  refine ⟨?_, by rw [Nat.zero_add]; exact blk_frozen h1 t⟩
  rw [Nat.zero_add, blk_cell h1 t]
  have e1 : cur[t]? = (d.toList.map El.v)[t]? := by
    rw [← h3, List.getElem?_take_of_lt ht, Array.getElem?_toList]
  rw [e1, List.getElem?_map, Array.getElem?_toList, Array.getElem?_eq_getElem ht, getElem!_pos d t ht]
  rfl
theorem At.sorted {d d' : Array (El W0 ok)} (h : At w base g cap d) (hs : d'.size = d.size) : At (sortWorld El.v w g 0 n d' os) base g cap d' := by
  obtain ⟨cur, h1, h2, h3⟩ := h.cells
  refine ⟨h.base, h.max, hs ▸ h.size, _, sortW1_heap El.v w g n d' os h1, by simpa [Go.Sort.putCells] using h2, putCells1_take El.v d' cur ?_⟩
  have := h.size
  omega
theorem At.cut {d : Array (El W0 ok)} (h : At w base g cap d) (q : Nat) (hq : q ≤ d.size) : At w base g cap (d.toList.take q).toArray := by
  obtain ⟨cur, h1, h2, h3⟩ := h.cells
  have hs := h.size
  refine ⟨h.base, h.max, by simp; omega, cur, h1, h2, ?_⟩
  have e : (d.toList.take q).toArray.size = q := by simp; omega
  rw [e]
  show _ = (d.toList.take q).map El.v
  rw [List.map_take, ← h3, List.take_take, Nat.min_eq_left hq]
theorem At.raw {d : Array (El W0 ok)} (h : At w base g cap d) : (Kd.raw 1).R 40 w base (fun k => some k = (Value.slice (some ⟨g, 0, none⟩) d.size cap).ownBlock) (.slice (some ⟨g, 0, none⟩) d.size cap) (d.toList.map fun x => [x.v]) := by
  obtain ⟨cur, h1, h2, h3⟩ := h.cells
  have hl : (d.toList.map fun x : El W0 ok => [x.v]).length = d.size := by simp
  refine ⟨fun k hk => hk.symm, d.toList.map El.v, ⟨by rw [hl]; simp [Kd.raw], .inr ⟨g, cap, cur, by rw [hl], h.base, h1, by rw [hl]; exact h.size, h.max, by simpa [Kd.raw] using h2, by rw [hl]; simpa [Kd.raw] using h3⟩⟩, by rw [hl]; simp [Kd.raw], ?_⟩
  intro j p hp
  rw [List.getElem?_map, Option.map_eq_some_iff] at hp
  obtain ⟨x, hx, rfl⟩ := hp
  have hj : j < (d.toList.map El.v).length := by
    have := (List.getElem?_eq_some_iff.1 hx).1
    simpa using this
  have e : ((d.toList.map El.v).drop (j * (Kd.raw 1).sz)).take (Kd.raw 1).sz = [x.v] := by
    show ((d.toList.map El.v).drop (j * 1)).take 1 = _
    rw [Nat.mul_one, List.drop_eq_getElem_cons hj]
    have : (d.toList.map El.v)[j]? = some x.v := by rw [List.getElem?_map, hx]; rfl
    rw [List.getElem?_eq_getElem hj] at this
    simp [Option.some.inj this]
  rw [e]
  exact ⟨rfl, rfl, fun u hu => by rw [List.mem_singleton.1 hu]; exact x.one⟩
end
section
variable {w W : World} {ok : Nat → Prop} {base g cap n : Nat} {xs : List (List S43)}
abbrev inn (ok : Nat → Prop) (g : Nat) : Nat → Prop := fun k => ok k ∧ k ≠ g
theorem inn_of {k : Nat} {c : Nat} (h : ok k ∧ some k ≠ (Value.slice (some ⟨g, 0, none⟩) n c).ownBlock) : inn ok g k := ⟨h.1, fun e => h.2 (by rw [e]; rfl)⟩
theorem inn_to {k : Nat} {c : Nat} (h : inn ok g k) : ok k ∧ some k ≠ (Value.slice (some ⟨g, 0, none⟩) n c).ownBlock := ⟨h.1, fun e => h.2 (by injection e)⟩
end
def own {α : Type} (b e : Nat) (d : Kd α) : Kd (List α) where
  sz := 1
  E := e :: d.E
  K := fun w xs cs => ∃ v, cs = [v] ∧ d.R e w b (fun _ => True) v xs
  M := fun _ _ _ _ _ => False
  K_len := by
    rintro w x cs ⟨v, rfl, _⟩
    rfl
  K_one := by
    rintro w x cs ⟨v, rfl, h⟩ u hu
    rw [List.mem_singleton.1 hu]
    exact (Kd.R_val h).2
  K_below := by
    rintro w w1 x cs hb ⟨v, rfl, h⟩
    exact ⟨v, rfl, Kd.R_mono (Kd.R_move (Kd.R_bound h) (fun k hk => hb.block k hk.2.2.1)) (fun _ _ => trivial)⟩
  K_of_M := fun h => h.elim
  M_mono := fun _ h => h
  M_bound := fun h => h
  M_move := fun _ h => h
  M_lower := fun _ h => h
section
variable {α : Type} {d : Kd α} {b e t base : Nat} {w W : World} {ok : Nat → Prop} {v : Value} {xs : List α} {c : List Value}
theorem KO_slice {x : List α} (h : (own b e d).K W x c) : (Kd.slice e d).K W x c := by
  obtain ⟨v, rfl, h⟩ := h
  obtain ⟨A, cc, rfl, h1, h2⟩ := Kd.R_reads h
  exact ⟨A, cc, rfl, h1, h2⟩
theorem FKO_slice {x : List α} (h : Kd.FK (own b e d) W ok x c) : Kd.FK (Kd.slice e d) W ok x c := Foot.imp h (fun _ h => KO_slice h)
theorem FO_slice {A : Option Addr} {n : Nat} {l : List (List α)} (h : Kd.F (own b e d) W ok A n l) : Kd.F (Kd.slice e d) W ok A n l := Kd.F_imp h (fun _ h2 => Kd.C_imp (d := own b e d) (d' := Kd.slice e d) rfl (fun _ _ _ h3 => KO_slice h3) h2)
theorem VO_slice {l : List (List α)} (h : Kd.V (own b e d) t W base ok v l) : Kd.V (Kd.slice e d) t W base ok v l := by
  obtain ⟨A, c, rfl⟩ := Kd.V_slice h
  obtain ⟨hn, hc, hf⟩ := Kd.V_at h
  exact Kd.V_mk hc (FO_slice hf)
theorem NO_slice {l : List (List α)} (h : Kd.N (own b e d) t W base ok v l) : Kd.N (Kd.slice e d) t W base ok v l := by
  obtain ⟨h0, rows, hl, hR, hf⟩ := h
  exact ⟨h0, rows, hl, hR, fun j x c hx hc => FKO_slice (hf j x c hx hc)⟩
theorem FKO_form (hz : 0 < d.sz) (h : Kd.FK (own b e d) W ok xs c) (z : α) (hp : 0 < xs.length) : ∃ g cap, c = [.slice (some ⟨g, 0, none⟩) xs.length cap] ∧ b ≤ g ∧ ok g ∧ d.R e W b (fun _ => True) (.slice (some ⟨g, 0, none⟩) xs.length cap) xs := by
  obtain ⟨v, rfl, hR⟩ := Kd.FK_now h
  obtain ⟨g, cap, rfl, h1, h2, _⟩ := Kd.R_form hR hp
  refine ⟨g, cap, rfl, h1, ?_, hR⟩
  obtain ⟨A, cc, he, _, hF⟩ := Kd.FK_slice_open (FKO_slice h)
  injection he with he _
  injection he with he _ _
  obtain ⟨ad, _, hA, _, _, _, h7⟩ := Kd.F_get hF z 0 (by omega) (by omega)
  rw [hA] at he
  injection he with he
  subst he
  exact h7 hz
theorem R_same {base1 base2 g cap1 cap2 : Nat} {ok1 ok2 : Nat → Prop} {x y : List α} (hK : ∀ (w : World) (p q : α) (c : List Value), d.K w p c → d.K w q c → p = q) (hl : x.length = y.length) (h1 : d.R e W base1 ok1 (.slice (some ⟨g, 0, none⟩) x.length cap1) x) (h2 : d.R e W base2 ok2 (.slice (some ⟨g, 0, none⟩) y.length cap2) y) : x = y := by
  obtain ⟨_, i1, ⟨a1, a2⟩, r1⟩ := h1
  obtain ⟨_, i2, ⟨b1, b2⟩, r2⟩ := h2
  rcases a2 with ⟨a2, _⟩ | ⟨g1, k1, c1, e1, _, p1, _, _, _, q1⟩
  · cases a2
  rcases b2 with ⟨b2, _⟩ | ⟨g2, k2, c2, e2, _, p2, _, _, _, q2⟩
  · cases b2
  injection e1 with e1 _ _
  injection e1 with e1
  injection e1 with e1
  injection e2 with e2 _ _
  injection e2 with e2
  injection e2 with e2
  subst e1 e2
  rw [p1] at p2
  injection p2 with p2
  injection p2 with p2
  subst p2
  have hi : i1 = i2 := by rw [← q1, ← q2, hl]
  subst hi
  apply List.ext_getElem hl
  intro j hj hj2
  exact hK W _ _ _ (d.K_of_M (r1.2 j _ (List.getElem?_eq_getElem hj))) (d.K_of_M (r2.2 j _ (List.getElem?_eq_getElem hj2)))
theorem S_of_N {n : Nat} {l : List (List α)} (hz : 0 < d.sz) (hE : d.E = []) (z : α) (hK : ∀ (w : World) (p q : α) (c : List Value), d.K w p c → d.K w q c → p = q) (h : Kd.N (own b e d) t W base ok v l) (hb : base ≤ b) (hn : l.Nodup) (hl : ∀ x ∈ l, x.length = n) (h0 : 0 < n) : Kd.S (Kd.slice e d) t W base ok v l := by
  classical
  obtain ⟨g0, rows, hrl, hR, hf⟩ := h
  obtain ⟨h1, inner, ho, hr⟩ := hR
  have hform : ∀ j (hj : j < l.length), ∃ g cap, rows[j]'(by omega) = [.slice (some ⟨g, 0, none⟩) n cap] ∧ (ok g ∧ some g ≠ v.ownBlock) ∧ d.R e W b (fun _ => True) (.slice (some ⟨g, 0, none⟩) n cap) l[j] := fun j hj => by
    have hlj := hl _ (List.getElem_mem hj)
    obtain ⟨g, cap, e1, _, e3, e4⟩ := FKO_form hz (hf j l[j] (rows[j]'(by omega)) (List.getElem?_eq_getElem hj) (List.getElem?_eq_getElem (by omega))) z (by omega)
    rw [hlj] at e1 e4
    exact ⟨g, cap, e1, e3, e4⟩
  have hchunk : ∀ j (hj : j < l.length), (inner.drop (j * 1)).take 1 = rows[j]'(by omega) := fun j hj => (hr.2 j _ (List.getElem?_eq_getElem (by omega))).1
  let f : Nat → Nat := fun k => rows.findIdx (fun c => decide (∃ cap, c = [Value.slice (some ⟨k, 0, none⟩) n cap]))
  have hfi : ∀ j (hj : j < l.length) g cap, rows[j]'(by omega) = [.slice (some ⟨g, 0, none⟩) n cap] → f g = j := fun j hj g cap he => by
    have hj' : j < rows.length := by omega
    refine (List.findIdx_eq hj').2 ⟨decide_eq_true ⟨cap, he⟩, fun i hi => decide_eq_false ?_⟩
    rintro ⟨cap2, he2⟩
    obtain ⟨g1, c1, e1, _, R1⟩ := hform i (by omega)
    obtain ⟨g2, c2, e2, _, R2⟩ := hform j hj
    rw [he2] at e1
    rw [he] at e2
    injection e1 with e1 _
    injection e1 with e1 _ e1c
    injection e1 with e1
    injection e1 with e1
    injection e2 with e2 _
    injection e2 with e2 _ e2c
    injection e2 with e2
    injection e2 with e2
    subst e1 e2
    have li := hl _ (List.getElem_mem (show i < l.length by omega))
    have lj := hl _ (List.getElem_mem hj)
    rw [← li] at R1
    rw [← lj] at R2
    have := R_same hK (li.trans lj.symm) R1 R2
    have := (List.getElem_inj hn).1 this
    omega
  refine ⟨f, g0, inner, ?_, ?_⟩
  · rw [List.length_zipIdx, ← hrl]; exact ho
  · refine ⟨by rw [List.length_zipIdx, ← hrl]; exact hr.1, fun j p hj => ?_⟩
    rw [List.getElem?_zipIdx, Nat.zero_add, Option.map_eq_some_iff] at hj
    obtain ⟨x, hx, rfl⟩ := hj
    obtain ⟨hj, hx⟩ := List.getElem?_eq_some_iff.1 hx
    subst hx
    obtain ⟨g, cap, e1, hok, hRr⟩ := hform j hj
    have hlj := hl _ (List.getElem_mem hj)
    show ∃ v', (inner.drop (j * 1)).take 1 = [v'] ∧ d.R e W base _ v' l[j]
    rw [hchunk j hj, e1]
    refine ⟨_, rfl, Kd.R_mono (Kd.R_lower (Kd.R_tight hE hRr) hb) (fun k hk => ?_)⟩
    obtain rfl : k = g := by simpa [Value.ownBlock] using hk
    exact ⟨hok, hfi j hj k cap e1⟩
theorem FO_low {b' : Nat} {A : Option Addr} {n : Nat} {l : List (List α)} (h : Kd.F (own b e d) W ok A n l) (hb : b' ≤ b) : Kd.F (own b' e d) W ok A n l := Kd.F_imp h (fun _ h2 => Kd.C_imp (d := own b e d) (d' := own b' e d) rfl (fun _ _ _ ⟨v, h1, h3⟩ => ⟨v, h1, Kd.R_lower h3 hb⟩) h2)
theorem VO_low {b' : Nat} {l : List (List α)} (h : Kd.V (own b e d) t W base ok v l) (hb : b' ≤ b) : Kd.V (own b' e d) t W base ok v l := by
  obtain ⟨A, c, rfl⟩ := Kd.V_slice h
  obtain ⟨hn, hc, hf⟩ := Kd.V_at h
  exact Kd.V_mk hc (FO_low hf hb)
theorem FKO_R {x : List α} (hE : d.E = []) (h : d.R e W base ok v x) (hb : b ≤ base) : Kd.FK (own b e d) W ok x [v] := fun W' hW =>
  ⟨v, rfl, Kd.R_mono (Kd.R_lower (Kd.R_move (Kd.R_bound h) (fun k hk => hW k hk.1 hk.2.2.1)) hb) (fun _ _ => trivial)⟩
end
def OV {α : Type} (b e : Nat) (d : Kd α) (W : World) (ok : Nat → Prop) (v : Value) (xs : List α) : Prop := Kd.FK (own b e d) W ok xs [v]
section
variable {α : Type} {d : Kd α} {b e n : Nat} {w1 W : World} {ok ok' : Nat → Prop} {u v v1 : Value} {xs : List α}
theorem OV_mono (h : OV b e d W ok v xs) (hok : ∀ k, ok k → ok' k) : OV b e d W ok' v xs := Foot.mono h hok
theorem OV_below (h : OV b e d W ok v xs) (hb : Below W.heap.size W w1) : OV b e d w1 ok v xs := Foot.step h (fun k _ hk => hb.block k hk)
theorem OV_alloc (h : OV b e d W ok v xs) (o : Obj) : OV b e d (W.alloc o) ok v xs := OV_below h (below_alloc (Below.refl _ _) o)
theorem OV_drewN (h : OV b e d W ok v xs) (m : Nat) : OV b e d (W.drewN m) ok v xs := OV_below h (pw_below_drewN (Below.refl _ _) m)
theorem OV_drew (h : OV b e d W ok v xs) : OV b e d W.drew ok v xs := OV_below h (below_drew (Below.refl _ _))
theorem OV_elder' (h : OV b e d W ok v xs) (hbase : ∀ k, u.ownBlock = some k → W.heap.size ≤ k) (hb : Below W.heap.size W w1) : OV b e d w1 (fun k => ok k ∧ some k ≠ u.ownBlock) v xs :=
  Foot.mono (Foot.old h hb) (fun k hk => ⟨hk.1, fun he => by have := hbase k he.symm; have := hk.2; omega⟩)
theorem OV_after (h : OV b e d W (fun k => ok k ∧ some k ≠ u.ownBlock) v xs) (hg : W.grownBy w1 u.ownBlock) (hat : v1.ownBlock = u.ownBlock ∨ ∃ b, v1.ownBlock = some b ∧ W.heap.size ≤ b) : OV b e d w1 (fun k => ok k ∧ some k ≠ v1.ownBlock) v xs := by
  refine Foot.mono (Foot.step (Foot.bound h) (fun k hk hlt => hg.block k hlt hk.1.2)) (fun k hk => ⟨hk.1.1, ?_⟩)
  rcases hat with hat | ⟨b, hb, hle⟩
  · rw [hat]; exact hk.1.2
  · rw [hb]
    intro he
    injection he with he
    have := hk.2
    omega
end
def apartB (l : List (List S43)) : Bool := decide l.Nodup && l.all fun x => decide (x.length = (l.headD []).length) && decide (0 < x.length)
theorem k_one_ (w : World) (p q : S43) (c : List Value) (h1 : (k43).K w p c) (h2 : (k43).K w q c) : p = q := by
  have e1 := k43_open h1
  have e2 := k43_open h2
  subst e1
  cases p; cases q
  simpa using e2
theorem S_of_NB {b t base : Nat} {W : World} {ok : Nat → Prop} {v : Value} {l : List (List S43)} (h : Kd.N (own b 43 k43) t W base ok v l) (hb : b ≤ base) (hB : apartB l = true) : Kd.S (Kd.slice 43 k43) t W b ok v l := by
  unfold apartB at hB
  rw [Bool.and_eq_true, List.all_eq_true] at hB
  obtain ⟨h1, h2⟩ := hB
  rcases Nat.eq_zero_or_pos (l.headD []).length with h0 | h0
  · have hl : l = [] := by
      cases l with
      | nil => rfl
      | cons a r =>
        have := h2 a (by simp)
        simp only [Bool.and_eq_true, decide_eq_true_eq, List.headD_cons] at this h0
        omega
    subst hl
    exact S_of_N (n := 1) (by decide) rfl ⟨0, 0, 0⟩ k_one_ (Kd.N_lower h hb) (Nat.le_refl _) (by simp) (by simp) (by decide)
  · exact S_of_N (n := (l.headD []).length) (by decide) rfl ⟨0, 0, 0⟩ k_one_ (Kd.N_lower h hb) (Nat.le_refl _) (of_decide_eq_true h1) (fun x hx => by
      have := h2 x hx
      simp only [Bool.and_eq_true, decide_eq_true_eq] at this
      exact this.1) h0
section
variable {w W : World} {ok : Nat → Prop} {base g cap n b : Nat} {xs : List (List S43)}
theorem N_openO (h : Kd.N (own b 43 k43) 40 w base ok (.slice (some ⟨g, 0, none⟩) n cap) xs) : ok g ∧ n = xs.length ∧ ∃ d : Array (El w (inn ok g)), d.toList.map El.l = xs ∧ At w base g cap d ∧ ∀ x ∈ d.toList, Kd.FK (own b 43 k43) w (inn ok g) x.l [x.v] := by
  obtain ⟨h0, rows, hl, hR, hf⟩ := h
  obtain ⟨h1, inner, ⟨h2, h3⟩, h4, h5⟩ := hR
  rcases h3 with ⟨h3, _⟩ | ⟨g', cap', cur, h3, h6, h7, h8, h9, h10, h11⟩
  · cases h3
  injection h3 with h3 h13 h12
  injection h3 with h3
  injection h3 with h3
  subst h3 h12
  have hs1 : (Kd.raw (own b 43 k43).sz).sz = 1 := rfl
  rw [hs1, Nat.mul_one] at h2 h4
  rw [hs1, Nat.mul_one] at h11
  rw [hs1, Nat.mul_one] at h10
  rw [hl] at h13 h2 h4 h8 h11
  refine ⟨h0 g rfl, h13, ?_⟩
  have hrow : ∀ j (hj : j < xs.length), rows[j]'(by omega) = [inner[j]'(by omega)] := fun j hj => by
    obtain ⟨e, _⟩ := h5 j (rows[j]'(by omega)) (List.getElem?_eq_getElem (by omega))
    rw [← e, hs1, Nat.mul_one, List.drop_eq_getElem_cons (by omega)]
    rfl
  have hel : ∀ j : Fin xs.length, Kd.FK (own b 43 k43) w (inn ok g) xs[j.1] [inner[j.1]'(by omega)] := fun j => by
    have h := hf j.1 xs[j.1] (rows[j.1]'(by omega)) (List.getElem?_eq_getElem j.2) (List.getElem?_eq_getElem (by omega))
    rw [hrow j.1 j.2] at h
    exact Kd.FK_mono h (fun k hk => inn_of hk)
  refine ⟨Array.ofFn fun j : Fin xs.length => El.mk (inner[j.1]'(by omega)) xs[j.1] j.1 (FKO_slice (hel j)), ?_, ⟨h6, h9, by rw [Array.size_ofFn]; exact h8, cur, h7, h10, ?_⟩, fun x hx => ?_⟩
  · apply List.ext_getElem
    · simp
    · intro i hi hi2
      simp
  · rw [Array.size_ofFn, h11]
    apply List.ext_getElem
    · simp; omega
    · intro i hi hi2
      simp
  · obtain ⟨i, hi, rfl⟩ := List.getElem_of_mem hx
    have hi' : i < xs.length := by simpa using hi
    have := hel ⟨i, hi'⟩
    simpa using this
theorem N_closeO {d0 : World} {d : Array (El d0 (inn ok g))} (hok : ok g) (h : At w base g cap d) (hs : Same d0 w (inn ok g)) (hO : ∀ x ∈ d.toList, Kd.FK (own b 43 k43) d0 (inn ok g) x.l [x.v]) : Kd.N (own b 43 k43) 40 w base ok (.slice (some ⟨g, 0, none⟩) d.size cap) (d.toList.map El.l) := by
  refine ⟨fun k hk => ?_, d.toList.map fun x : El d0 (inn ok g) => [x.v], by simp, h.raw, fun j x c hx hc => ?_⟩
  · simp [Value.ownBlock] at hk
    exact hk ▸ hok
  · rw [List.getElem?_map, Option.map_eq_some_iff] at hx hc
    obtain ⟨y, hy, rfl⟩ := hx
    obtain ⟨z, hz, rfl⟩ := hc
    rw [hy] at hz
    obtain rfl := Option.some.inj hz
    exact Kd.FK_mono (Kd.FK_step (hO y (List.mem_of_getElem? hy)) hs) (fun k hk => inn_to hk)
end
theorem compareF_rounds (a b : List S43) (hl : a.length = b.length) (hs : a.length ≤ 9223372036854775807) : ∀ (suf pre : List S43), a = pre ++ suf → ∀ k, suf.length < k → impl_Cube_59__impl_compareCubes.l0 k a b a (a.length : Int) (pre.length : Int) = some (ordL suf (b.drop pre.length)) := by
  intro suf
  induction suf with
  | nil =>
    intro pre hx k hk
    obtain ⟨k, rfl⟩ : ∃ m, k = m + 1 := ⟨k - 1, by omega⟩
    rw [List.append_nil] at hx
    subst hx
    simp only [impl_Cube_59__impl_compareCubes.l0]
    rw [if_neg (by omega), if_neg (by omega)]
    rfl
  | cons c suf ih =>
    intro pre hx k hk
    obtain ⟨k, rfl⟩ : ∃ m, k = m + 1 := ⟨k - 1, by omega⟩
    have hla : a.length = pre.length + (suf.length + 1) := by rw [hx]; simp
    have hpb : pre.length < b.length := by omega
    have ea : rd_T43 a (pre.length : Int) = c := by
      unfold rd_T43
      rw [hx]
      simp [List.getD]
    have eb : rd_T43 b (pre.length : Int) = b[pre.length] := by
      unfold rd_T43
      rw [List.getD_eq_getElem?_getD, Int.toNat_natCast, List.getElem?_eq_getElem hpb]
      rfl
    have ew : wrap64 ((pre.length : Int) + 1) = ((pre ++ [c]).length : Int) := by
      rw [List.length_append, List.length_singleton]
      simp only [wrap64]
      omega
    have hi := ih (pre ++ [c]) (by rw [hx]; simp) k (by simp at hk; omega)
    simp only [impl_Cube_59__impl_compareCubes.l0]
    rw [if_pos (by omega), if_pos (by omega), if_pos (by omega), if_neg (by omega), if_pos (by omega), ea, eb, cmpV_eq, Option.bind_some, ew, hi, List.drop_eq_getElem_cons hpb, ordL, List.length_append, List.length_singleton]
    split <;> rfl
theorem compare_rounds (a b : List S43) (hs : a.length ≤ 9223372036854775807) : ∃ k, impl_compareSolids.f k a b = some (ordS a b) := by
  refine ⟨a.length + 1, ?_⟩
  unfold impl_compareSolids.f ordS cmp_Compare_int.f cmp_isNaN_int.f
  simp only [bne_self_eq_false, Option.bind_some, Bool.false_eq_true, if_false]
  by_cases hl : a.length = b.length
  · rw [if_neg (by omega), if_neg (by omega), Option.bind_some, if_pos rfl, if_pos hl]
    have := compareF_rounds a b hl hs a [] rfl (a.length + 1) (by omega)
    unfold impl_Cube_59__impl_compareCubes.f
    simp only [List.length_nil, Int.natCast_zero, List.drop_zero] at this
    rw [this]
    rfl
  · rw [if_neg hl]
    by_cases h2 : a.length < b.length
    · rw [if_pos (by omega), if_pos h2]
      rfl
    · rw [if_neg (by omega), if_pos (by omega), if_neg h2]
      rfl
set_option maxHeartbeats 4000000 in
theorem impl_Cube_40__impl_compareSolids.raw {W0 w : World} {ok : Nat → Prop} {base g cap : Nat} (d : Array (El W0 ok)) (hA : At w base g cap d) (hS : Same W0 w ok) (hg : ¬ ok g) (hsz : d.size < 4611686018427387904) :
    Calls Try.prog 40 #[.slice (some ⟨g, 0, none⟩) d.size cap, .func (.func 41) #[] #[]] w fun e w' => e = .returned (.tuple #[]) ∧ ∃ (d' : Array (El W0 ok)) (n : Nat) (os : Array Obj), d'.toList.Perm d.toList ∧ d'.toList.map El.l = sortS (d.toList.map El.l) ∧ w' = sortWorld El.v w g 0 n d' os := by
  have eg : ∀ args w, (callFunc 41 args).run Try.prog w = .ok (.enter 41 args) w := enters_of Try.func41 (by kernel_rfl) rfl
  have hcmp : CmpLays1 Try.prog 41 #[] El.v cfE g 0 d.size w := fun m os dk hdk x y => by
    have hgw := sortW1_grown El.v w g m dk os
    obtain ⟨A0, c0, e0, hc0, hC0⟩ := x.now (hS.grown hgw hg)
    obtain ⟨A1, c1, e1, hc1, hC1⟩ := y.now (hS.grown hgw hg)
    obtain ⟨k, hk⟩ := compare_rounds x.l y.l hC0.2.1
    rw [e0, e1]
    exact (impl_compareSolids.callsG k A0 c0 x.l A1 c1 y.l (ordS x.l y.l) _ hC0 hc0 hC1 hc1 hk).mono fun _ _ hh => ⟨hh.1, hh.2.gr⟩
  have hcon := Any.slices_SortFunc sortS_lays El.v El.one cfE swoE 41 #[] g 0 cap d w eg hcmp hA.holds hA.lt hsz
  refine (show Calls Try.prog 40 #[.slice (some ⟨g, 0, none⟩) d.size cap, .func (.func 41) #[] #[]] w _ from hcon).mono ?_
  rintro e w' ⟨rfl, d', n, os, hp, hs', rfl⟩
  have hP : d'.toList.Perm d.toList := by
    have := hp.2.2
    have e1 : d'.extract 0 d.size = d' := by rw [← hp.1]; exact Array.extract_size
    have e2 : d.extract 0 d.size = d := Array.extract_size
    rwa [e1, e2] at this
  refine ⟨rfl, d', n, os, hP, ?_, rfl⟩
  refine List.Perm.eq_of_pairwise (le := fun x y => (!ltOf ordS y x) = true) ?_ ?_ ?_ ((hP.map El.l).trans (List.mergeSort_perm _ _).symm)
  · intro a b _ _ h1 h2
    simp only [Bool.not_eq_true'] at h1 h2
    exact antiS a b h2 h1
  · rw [List.pairwise_map, List.pairwise_iff_getElem]
    intro i j hi hj hij
    have hi' : i < d'.size := by simpa using hi
    have hj' : j < d'.size := by simpa using hj
    have := hs' i j (Nat.zero_le _) hij (by rw [← hp.1]; exact hj')
    rw [getElem!_pos d' i hi', getElem!_pos d' j hj'] at this
    simp only [Bool.not_eq_true', Array.getElem_toList]
    exact this
  · have := List.pairwise_mergeSort (le := fun x y : List S43 => !ltOf ordS y x) (fun a b c h1 h2 => by
      simp only [Bool.not_eq_true'] at *
      exact swoS.ntrans c b a h2 h1) (fun a b => by
      rw [Bool.or_eq_true]
      by_cases e : ltOf ordS b a = true
      · right
        simp only [Bool.not_eq_true']
        rw [ltS_iff]
        unfold ltOf at e
        rw [decide_eq_true_eq] at e
        rw [ordS_anti]
        omega
      · left
        simpa using e) (d.toList.map El.l)
    exact this
def impl_Cube_40__impl_compareSolids.f (l0 : List (List S43)) : Option (List (List S43)) := if 0 < l0.length ∧ l0.length < 4611686018427387904 then some (sortS l0) else none
theorem impl_Cube_40__impl_compareSolids.callsO (b_ : Nat) (P0_ : Nat → Prop) (u9000_ : Value) (l0 : List (List S43)) (r : List (List S43)) (w0 w : World) (hB : Below w0.heap.size w0 w) (ho0 : Kd.N (own b_ 43 k43) 40 w w0.heap.size P0_ u9000_ l0) (h : impl_Cube_40__impl_compareSolids.f l0 = some r) :
    Calls Try.prog 40 #[u9000_, .func (.func 41) #[] #[]] w fun e w' => e = .returned (.tuple #[]) ∧ Kd.N (own b_ 43 k43) 40 w' w0.heap.size P0_ u9000_ r ∧ Below w0.heap.size w0 w' ∧ Kept w w' (fun k_ => some k_ = u9000_.ownBlock) ∧ True := by
  unfold impl_Cube_40__impl_compareSolids.f at h
  by_cases hl : 0 < l0.length ∧ l0.length < 4611686018427387904
  · rw [if_pos hl] at h
    obtain rfl := Option.some.inj h
    obtain ⟨g, cap, rfl, _⟩ := Kd.N_form ho0 hl.1
    obtain ⟨hok, hn, d, hd, hA, hO⟩ := N_openO ho0
    have hdn : d.size = l0.length := by rw [← hd]; simp
    have hcon := impl_Cube_40__impl_compareSolids.raw d hA (Same.refl _ _) (fun h_ => h_.2 rfl) (by omega)
    rw [hdn] at hcon
    refine hcon.mono ?_
    rintro e w' ⟨rfl, d', n, os, hP, hs, rfl⟩
    have hgw := sortW1_grown El.v w g n d' os
    have hsz : d'.size = d.size := by
      have := hP.length_eq
      rw [Array.length_toList, Array.length_toList] at this
      exact this
    have hA2 := hA.sorted (n := n) (os := os) hsz
    refine ⟨rfl, ?_, pw_below_grown hB (some g) hB.size hgw (fun k hk => by injection hk with hk; exact hk ▸ hA.base), ⟨hgw.size, fun i hi hn => hgw.block i hi (fun e => hn (by injection e with e; exact e ▸ rfl))⟩, trivial⟩
    have h2 := N_closeO hok hA2 ((Same.refl _ _).grown hgw (fun h_ => h_.2 rfl)) (fun x hx => hO x (hP.mem_iff.1 hx))
    rw [hs, hd, hsz, hdn] at h2
    exact h2
  · rw [if_neg hl] at h
    exact absurd h (by simp)
end Go.Proofs.Ytlompfboheiliaa.F
end
section
namespace Go.Proofs.Ytlompfboheiliaa.F
open Go.RowKit Go.Proofs.YtlompfboheiliaaW.PrintWords Go.Proofs.YtlompfboheiliaaW.PrintLast Go.Proofs.YtlompfboheiliaaW.PrintMore
attribute [local go_sem] max2_int min2_int max_two min_two max_three min_three max_four min_four
set_option linter.unusedVariables false
set_option linter.unusedSimpArgs false
attribute [local go_sem high] eqA43
def impl_Cube_44.l0 : Nat → List (S43) → List (S43) → Int → Int → Option (Bool)
 | 0, _, _, _, _ => none
 | k + 1, x0, x1, x12, x13 => if x13 < x12 then (if 0 ≤ x13 then (if x13 < (x0.length : Int) then (if x13 < (x1.length : Int) then (if (!(((rd_T43 x0 x13).f0) == ((rd_T43 x1 x13).f0)) || (!(((rd_T43 x0 x13).f1) == ((rd_T43 x1 x13).f1)) || (!(((rd_T43 x0 x13).f2) == ((rd_T43 x1 x13).f2))))) = true then (some false) else (impl_Cube_44.l0 k x0 x1 x12 (wrap64 (x13 + 1)))) else (none)) else (none)) else (none)) else (some true)
def impl_Cube_44.f (k : Nat) (l0 : List (S43)) (l1 : List (S43)) : Option (Bool) := if (l0.length : Int) = (l1.length : Int) then (impl_Cube_44.l0 k l0 l1 (l0.length : Int) 0) else (some false)
theorem impl_Cube_44.calls (k : Nat) (A0 : Option Addr) (c0 : Nat) (l0 : List (S43)) (A1 : Option Addr) (c1 : Nat) (l1 : List (S43)) (r : Bool) (w : World) (hr0 : Kd.C k43 w A0 l0.length l0) (hc0 : l0.length ≤ c0) (hr1 : Kd.C k43 w A1 l1.length l1) (hc1 : l1.length ≤ c1) (h : impl_Cube_44.f k l0 l1 = some r) :
  Calls Try.prog 44 #[.slice A0 l0.length c0, .slice A1 l1.length c1] w fun e w' => e = .returned (.bool r) ∧ Drawn0 w w' := by
 have hu43 := Try.underlying43
 have HR0 := aM hr0
 have HC0 := aM hc0
 clear hr0 hc0
 have HR1 := aM hr1
 have HC1 := aM hc1
 clear hr1 hc1
 have H : (if (l0.length : Int) = (l1.length : Int) then (impl_Cube_44.l0 k l0 l1 (l0.length : Int) 0) else (some false)) = some r := h
 clear h
 by_cases c3 : (l0.length : Int) = (l1.length : Int)
 rotate_left
 ·rw [if_neg c3] at H
  have c3b0 : ((l0.length : Int) == (l1.length : Int)) = false := beq_eq_false_iff_ne.mpr c3
  have c3b1 : ((l0.length : Int) != (l1.length : Int)) = true := bne_iff_ne.mpr c3
  have c3b2 : (l0.length == l1.length) = false := by first | simpa using c3 | (simp at c3 ⊢; omega)
  obtain rfl := Option.some.inj H
  go_enter Try.func44, Try.ntmps44
  go_wp2
  repeat (go_quiet (fail); try go_wp2)
  go_ret
  exact ⟨by first | rfl | (simp; done) | (simp [*]; done), by repeat (first | exact Drawn0.refl _ | apply Drawn0.step)⟩
 rw [if_pos c3] at H
 have c3b0 : ((l0.length : Int) == (l1.length : Int)) = true := beq_iff_eq.mpr c3
 have c3b1 : ((l0.length : Int) != (l1.length : Int)) = false := bne_eq_false_iff_eq.mpr c3
 have c3b2 : (l0.length == l1.length) = true := by first | simpa using c3 | (simp at c3 ⊢; omega)
 clear c3
 have H' := aM H
 clear H
 go_enter Try.func44, Try.ntmps44
 go_wp2
 repeat (go_quiet (fail); try go_wp2)
 go_loopg [13] k (fun kq v13 w' => ∃ (x13_1 : Int), v13 = .int .i64 x13_1 ∧ Aside0 (impl_Cube_44.l0 kq l0 l1 (l0.length : Int) x13_1 = some r) ∧ Aside0 (kq ≤ k) ∧ Drawn0 w w')
 case atStart => exact ⟨(0), zr, H', ⟨Nat.le_refl _⟩, by repeat (first | exact Drawn0.refl _ | apply Drawn0.step)⟩
 case round =>
  clear H'
  try clear c1
  try clear p2
  try clear c3
  try clear c3b0
  try clear c3b1
  try clear c3b2
  obtain ⟨x13_1, rfl, HA, HK1, ⟨m1, rfl⟩⟩ := hrel
  cases gk with
  | zero => exact absurd HA.out (by simp [impl_Cube_44.l0])
  | succ k1 =>
   have H := HA.out
   clear HA
   simp only [impl_Cube_44.l0] at H
   by_cases c4 : x13_1 < (l0.length : Int)
   rotate_left
   ·rw [if_neg c4] at H
    have c4b0 : decide (x13_1 < (l0.length : Int)) = false := decide_eq_false c4
    clear c4
    obtain rfl := Option.some.inj H
    go_wp2
    repeat (go_quiet (fail); try go_wp2)
    go_ret
    exact ⟨by first | rfl | (simp; done) | (simp [*]; done), by repeat (first | exact Drawn0.refl _ | apply Drawn0.step)⟩
   rw [if_pos c4] at H
   have c4b0 : decide (x13_1 < (l0.length : Int)) = true := decide_eq_true c4
   clear c4
   by_cases c5 : 0 ≤ x13_1
   rotate_left
   ·rw [if_neg c5] at H
    exact absurd H (by simp)
   rw [if_pos c5] at H
   have c5b0 : decide (0 ≤ x13_1) = true := decide_eq_true c5
   clear c5
   by_cases c6 : x13_1 < (l0.length : Int)
   rotate_left
   ·rw [if_neg c6] at H
    exact absurd H (by simp)
   rw [if_pos c6] at H
   have c6b0 : decide (x13_1 < (l0.length : Int)) = true := decide_eq_true c6
   clear c6
   by_cases c7 : x13_1 < (l1.length : Int)
   rotate_left
   ·rw [if_neg c7] at H
    exact absurd H (by simp)
   rw [if_pos c7] at H
   have c7b0 : decide (x13_1 < (l1.length : Int)) = true := decide_eq_true c7
   clear c7
   by_cases c8 : (!(((rd_T43 l0 x13_1).f0) == ((rd_T43 l1 x13_1).f0)) || (!(((rd_T43 l0 x13_1).f1) == ((rd_T43 l1 x13_1).f1)) || (!(((rd_T43 l0 x13_1).f2) == ((rd_T43 l1 x13_1).f2))))) = true
   ·rw [if_pos c8] at H
    have c8b0 : (!(((rd_T43 l0 x13_1).f0) == ((rd_T43 l1 x13_1).f0)) || (!(((rd_T43 l0 x13_1).f1) == ((rd_T43 l1 x13_1).f1)) || (!(((rd_T43 l0 x13_1).f2) == ((rd_T43 l1 x13_1).f2))))) = true := c8
    clear c8
    obtain rfl := Option.some.inj H
    have p377 : 0 ≤ (x13_1 : Int) := of_decide_eq_true za
    have q377 : x13_1 < (l0.length : Int) := of_decide_eq_true za
    obtain ⟨ad377, e377, hx377_0, hx377_1, hx377_2⟩ := at_T43 HR0.out x13_1 p377 q377
    cases e377
    replace p377 := eq_true p377
    replace q377 := eq_true q377
    have p378 : 0 ≤ (x13_1 : Int) := of_decide_eq_true za
    have q378 : x13_1 < (l1.length : Int) := of_decide_eq_true za
    obtain ⟨ad378, e378, hx378_0, hx378_1, hx378_2⟩ := at_T43 HR1.out x13_1 p378 q378
    cases e378
    replace p378 := eq_true p378
    replace q378 := eq_true q378
    go_wp2
    repeat (go_quiet (fail); try go_wp2)
    go_ret
    exact ⟨by first | rfl | (simp; done) | (simp [*]; done), by repeat (first | exact Drawn0.refl _ | apply Drawn0.step)⟩
   rw [if_neg c8] at H
   have c8b0 : (!(((rd_T43 l0 x13_1).f0) == ((rd_T43 l1 x13_1).f0)) || (!(((rd_T43 l0 x13_1).f1) == ((rd_T43 l1 x13_1).f1)) || (!(((rd_T43 l0 x13_1).f2) == ((rd_T43 l1 x13_1).f2))))) = false := by simpa using c8
   clear c8
   have H' := aM H
   clear H
   have p377 : 0 ≤ (x13_1 : Int) := of_decide_eq_true za
   have q377 : x13_1 < (l0.length : Int) := of_decide_eq_true za
   obtain ⟨ad377, e377, hx377_0, hx377_1, hx377_2⟩ := at_T43 HR0.out x13_1 p377 q377
   cases e377
   replace p377 := eq_true p377
   replace q377 := eq_true q377
   have p378 : 0 ≤ (x13_1 : Int) := of_decide_eq_true za
   have q378 : x13_1 < (l1.length : Int) := of_decide_eq_true za
   obtain ⟨ad378, e378, hx378_0, hx378_1, hx378_2⟩ := at_T43 HR1.out x13_1 p378 q378
   cases e378
   replace p378 := eq_true p378
   replace q378 := eq_true q378
   go_wp2
   repeat (go_quiet (fail); try go_wp2)
   go_roundg k1
   case measure => have := HK1.out; omega
   case rel => exact ⟨(wrap64 (x13_1 + 1)), zr, H', ⟨by have := HK1.out; omega⟩, by repeat (first | exact Drawn0.refl _ | apply Drawn0.step)⟩
def impl_allSolids_1.f (k : Nat) (l0 : List (S43)) (l1 : List (S43)) : Option (Bool) := (impl_Cube_44.f k l0 l1).bind fun t379 => (some t379)
theorem impl_allSolids_1.calls (k : Nat) (A0 : Option Addr) (c0 : Nat) (l0 : List (S43)) (A1 : Option Addr) (c1 : Nat) (l1 : List (S43)) (r : Bool) (w : World) (hr0 : Kd.C k43 w A0 l0.length l0) (hc0 : l0.length ≤ c0) (hr1 : Kd.C k43 w A1 l1.length l1) (hc1 : l1.length ≤ c1) (h : impl_allSolids_1.f k l0 l1 = some r) :
  Calls Try.prog 43 #[.slice A0 l0.length c0, .slice A1 l1.length c1] w fun e w' => e = .returned (.bool r) ∧ Drawn0 w w' := by
 have HR0 := aM hr0
 have HC0 := aM hc0
 clear hr0 hc0
 have HR1 := aM hr1
 have HC1 := aM hc1
 clear hr1 hc1
 have H : ((impl_Cube_44.f k l0 l1).bind fun t379 => (some t379)) = some r := h
 clear h
 replace H := Option.bind_eq_some_iff.mp H
 obtain ⟨t379, A30, H⟩ := H
 replace H : (some t379) = some r := H
 have A3 := aM A30
 clear A30
 obtain rfl := Option.some.inj H
 go_enter Try.func43, Try.ntmps43
 go_wp2_with (first | ((with_reducible refine gate_callee (f := 44) rfl ?_); refine goesL_ (some 7) rfl rfl Try.func44 (by kernel_rfl) rfl #[.slice A0 l0.length c0, .slice A1 l1.length c1] rfl zm ?_; (with_reducible refine (impl_Cube_44.calls k _ _ l0 _ _ l1 t379 _ ?side1 ?side2 ?side3 ?side4 A3.out).mono ?_); (case side1 => repeat (first | exact HR0.out | (with_reducible refine Kd.C_alloc ?_ _) | (with_reducible refine Kd.C_drewN ?_ _) | (with_reducible refine Kd.C_drew ?_))); (case side2 => exact HC0.out); (case side3 => repeat (first | exact HR1.out | (with_reducible refine Kd.C_alloc ?_ _) | (with_reducible refine Kd.C_drewN ?_ _) | (with_reducible refine Kd.C_drew ?_))); (case side4 => exact HC1.out); rintro e w' ⟨rfl, ⟨nd, rfl⟩⟩; refine ⟨_, rfl, ?_⟩))
 go_ret
 exact ⟨by first | rfl | (simp; done) | (simp [*]; done), by repeat (first | exact Drawn0.refl _ | apply Drawn0.step)⟩
open Go.Sort
def compG {β : Type} [DecidableEq β] (p : β) : List β → List β
  | [] => []
  | b :: r => if b = p then compG b r else b :: compG b r
def compF {β : Type} [DecidableEq β] : List β → List β
  | [] => []
  | a :: r => a :: compG a r
theorem compG_snoc {β : Type} [DecidableEq β] : ∀ (l : List β) (p b : β), compG p (l ++ [b]) = if b = (p :: l).getLast (by simp) then compG p l else compG p l ++ [b]
  | [], p, b => by
    by_cases h : b = p
    · simp [compG, h]
    · simp [compG, h]
  | a :: r, p, b => by
    have ih := compG_snoc r a b
    rw [List.cons_append, compG, compG, ih]
    have e : (p :: a :: r).getLast (by simp) = (a :: r).getLast (by simp) := List.getLast_cons (by simp)
    rw [e]
    by_cases h : a = p
    · rw [if_pos h, if_pos h]
    · rw [if_neg h, if_neg h]
      split
      · rfl
      · rfl
theorem compF_snoc {β : Type} [DecidableEq β] (l : List β) (b : β) (h : l ≠ []) : compF (l ++ [b]) = if b = l.getLast h then compF l else compF l ++ [b] := by
  cases l with
  | nil => exact absurd rfl h
  | cons a r =>
    rw [List.cons_append, compF, compF, compG_snoc]
    split
    · rfl
    · rfl
theorem take_snoc_get {β : Type} (l : List β) (m : Nat) (h : m < l.length) : l.take (m + 1) = l.take m ++ [l[m]] := by
  rw [List.take_succ_eq_append_getElem h]
theorem compF_step {β : Type} [DecidableEq β] (l : List β) (m : Nat) (h : m < l.length) (h0 : 0 < m) : compF (l.take (m + 1)) = if l[m] = l[m - 1]'(by omega) then compF (l.take m) else compF (l.take m) ++ [l[m]] := by
  have hn : l.take m ≠ [] := by
    intro e
    have := congrArg List.length e
    rw [List.length_take, List.length_nil] at this
    omega
  rw [take_snoc_get l m h, compF_snoc _ _ hn]
  have e : (l.take m).getLast hn = l[m - 1]'(by omega) := by
    rw [List.getLast_eq_getElem]
    simp only [List.length_take, List.getElem_take]
    congr 1
    omega
  rw [e]
theorem take_sub {β : Type} (l : List β) {n m : Nat} (h : n ≤ m) : (l.take n).Sublist (l.take m) := by
  have : l.take n = (l.take m).take n := by rw [List.take_take, Nat.min_eq_left h]
  rw [this]
  exact List.take_sublist _ _
structure CompIv {α β : Type} [Inhabited α] [DecidableEq β] (key : α → β) (d : Array α) (m kk : Nat) (dk : Array α) : Prop where
  size : dk.size = d.size
  lt : kk < m
  le : m ≤ d.size
  low : (dk.toList.take kk).map key = compF ((d.toList.map key).take m)
  high : ∀ j, kk ≤ j → dk[j]! = d[j]!
  sub : (dk.toList.take kk).Sublist (d.toList.take m)
section
variable {α β : Type} [Inhabited α] [DecidableEq β] {key : α → β} {d dk : Array α} {m kk : Nat}
def AllKeep (key : α → β) (d : Array α) (m : Nat) : Prop := m ≤ d.size ∧ compF ((d.toList.map key).take m) = (d.toList.map key).take m
omit [Inhabited α] in
theorem AllKeep.one (h : 1 ≤ d.size) : AllKeep key d 1 := by
  refine ⟨h, ?_⟩
  cases hd : d.toList with
  | nil =>
    have e : d.toList.length = 0 := by rw [hd]; rfl
    rw [Array.length_toList] at e
    omega
  | cons a r => simp [compF, compG]
omit [DecidableEq β] in
theorem key_get (h : m < d.size) : (d.toList.map key)[m]'(by simpa using h) = key d[m]! := by
  rw [List.getElem_map, getElem!_pos d m h]
  simp
theorem AllKeep.step (h : AllKeep key d m) (h0 : 0 < m) (hm : m < d.size) (hk : key d[m]! ≠ key d[m - 1]!) : AllKeep key d (m + 1) := by
  refine ⟨hm, ?_⟩
  have hl : m < (d.toList.map key).length := by simpa using hm
  rw [compF_step _ m hl h0, key_get hm, key_get (by omega), if_neg hk, h.2, take_snoc_get _ m hl, key_get hm]
theorem CompIv.start (h : AllKeep key d kk) (h0 : 0 < kk) (hm : kk < d.size) (hk : key d[kk]! = key d[kk - 1]!) : CompIv key d (kk + 1) kk d where
  size := rfl
  lt := Nat.lt_succ_self _
  le := hm
  low := by
    have hl : kk < (d.toList.map key).length := by simpa using hm
    rw [compF_step _ kk hl h0, key_get hm, key_get (by omega), if_pos hk, h.2, List.map_take]
  high := fun _ _ => rfl
  sub := take_sub _ (Nat.le_succ _)
theorem CompIv.skip (h : CompIv key d m kk dk) (hm : m < d.size) (hk : key d[m]! = key d[m - 1]!) : CompIv key d (m + 1) kk dk where
  size := h.size
  lt := by have := h.lt; omega
  le := hm
  low := by
    have hl : m < (d.toList.map key).length := by simpa using hm
    have := h.lt
    rw [compF_step _ m hl (by omega), key_get hm, key_get (by omega), if_pos hk, h.low]
  high := h.high
  sub := h.sub.trans (take_sub _ (Nat.le_succ _))
omit [Inhabited α] in
theorem take_set {l : List α} {k : Nat} {x : α} (h : k < l.length) : (l.set k x).take (k + 1) = l.take k ++ [x] := by
  rw [take_snoc_get _ k (by simpa using h), List.take_set_of_le (Nat.le_refl _)]
  simp
theorem CompIv.keep (h : CompIv key d m kk dk) (hm : m < d.size) (hk : key d[m]! ≠ key d[m - 1]!) : CompIv key d (m + 1) (kk + 1) (dk.setIfInBounds kk d[m]!) where
  size := by simp [h.size]
  lt := by have := h.lt; omega
  le := hm
  low := by
    have hl : m < (d.toList.map key).length := by simpa using hm
    have h1 := h.lt
    have h2 := h.size
    rw [compF_step _ m hl (by omega), key_get hm, key_get (by omega), if_neg hk, ← h.low]
    have hkk : kk < dk.toList.length := by simp; omega
    rw [Array.toList_setIfInBounds, take_set hkk, List.map_append]
    rfl
  high := fun j hj => by rw [Go.Sort.getElem!_set_other dk kk j _ (by omega), h.high j (by omega)]
  sub := by
    have h1 := h.lt
    have h2 := h.size
    have hkk : kk < dk.toList.length := by simp; omega
    have hmm : m < d.toList.length := by simpa using hm
    rw [Array.toList_setIfInBounds, take_set hkk, take_snoc_get _ m hmm]
    refine h.sub.append ?_
    rw [getElem!_pos d m hm]
    simp
end
section
variable {α : Type} [Inhabited α] {enc : α → Value} {w0 W : World} {blk off : Nat} {dk : Array α}
theorem SW_set (h : SW enc w0 blk off dk W) (hblk : blk < w0.heap.size) (i : Nat) (hi : i < dk.size) (x : α) : SW enc w0 blk off (dk.setIfInBounds i x) (W.setCell ⟨blk, off + i, none⟩ (enc x)) := by
  obtain ⟨n, os, rfl⟩ := h
  refine ⟨n, os, ?_⟩
  unfold sortWorld
  rw [← putRow_grow enc (Go.Sort.ahead w0 n) os blk off dk hblk, Go.Sort.putRow_set enc _ blk off dk i x hi, putRow_grow enc (Go.Sort.ahead w0 n) os blk off _ hblk]
end
end Go.Proofs.Ytlompfboheiliaa.F
end
