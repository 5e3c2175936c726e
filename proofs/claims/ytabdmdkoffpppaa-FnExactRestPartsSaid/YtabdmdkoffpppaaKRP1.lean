/- The row of FnExactRestParts, with what it needs: text 2 of 8. -/
import Derived.Test.YtabdmdkoffpppaaKRP0
import Derived.DeepKeys4
import Derived.Lib.SliceRun
import Derived.Lib.Walk
import Derived.Maps.OwnSet
import Derived.Shelf.SlicesE.DeleteFunc
import Derived.Sort.Grow
import Derived.Test.YtabdmdkoffpppaaProg
set_option maxHeartbeats 8000000
set_option maxRecDepth 100000
namespace Go.Proofs.Ytabdmdkoffpppaa.F
theorem xA {α : Type _} (l : List α) (i : Nat) (a : α) : l.toArray.setIfInBounds i a = (l.set i a).toArray := List.setIfInBounds_toArray l i a
theorem xB {α : Type _} {x : α} {xs : List α} {a : α} : (x :: xs).set 0 a = a :: xs := rfl
theorem xC {α : Type _} {x : α} {xs : List α} {i : Nat} {a : α} : (x :: xs).set (i + 1) a = x :: xs.set i a := rfl
theorem mA {α : Type _} {β : Type _} {f : α → β} {l : List α} : Array.map f l.toArray = (List.map f l).toArray := List.map_toArray
theorem mB {α : Type _} {β : Type _} {f : α → β} {a : α} {l : List α} : List.map f (a :: l) = f a :: List.map f l := rfl
theorem mC {α : Type _} {β : Type _} {f : α → β} : List.map f [] = [] := rfl
theorem lD {α : Type _} {i : Nat} {l : List α} : (List.drop i l).length = l.length - i := List.length_drop
theorem lT {α : Type _} {i : Nat} {l : List α} : (List.take i l).length = min i l.length := List.length_take
end Go.Proofs.Ytabdmdkoffpppaa.F
namespace Go.Proofs.Ytabdmdkoffpppaa.F
open Go.RowKit Go.Proofs.YtabdmdkoffpppaaW.PrintWords Go.Proofs.YtabdmdkoffpppaaW.PrintLast Go.Proofs.YtabdmdkoffpppaaW.PrintMore
theorem aM {p : Prop} (h : p) : Aside0 p := ⟨h⟩
theorem zb {p : Prop} (h : p := by repeat (first | (with_reducible first | exact HB.out | apply below_alloc | apply pw_below_drewN | apply below_drew1) | exact HB.out)) : p := h
theorem zs {q p : Prop} (x : q) (h : q → p := by intro x_; repeat (first | (with_reducible first | exact HB.out | apply below_alloc | apply pw_below_drewN | apply below_drew1 | refine below_set ?_ x_) | exact HB.out)) : p := h x
theorem zt {q r p : Prop} (x : q) (y : r) (h : q → r → p := by intro x_ y_; repeat (first | (with_reducible first | exact HB.out | apply below_alloc | apply pw_below_drewN | apply below_drew1 | refine below_set ?_ x_ | refine below_set ?_ y_) | exact HB.out)) : p := h x y
theorem mR_ {q p : Prop} (x : q) (h : q → p := by intro x_; (with_reducible repeat (first | apply Kd.R_alloc | apply Kd.R_drewN | apply Kd.R_drew)); exact x_) : p := h x
theorem mV_ {q p : Prop} (x : q) (h : q → p := by intro x_; (with_reducible repeat (first | apply Kd.V_alloc | apply Kd.V_drewN | apply Kd.V_drew)); exact x_) : p := h x
theorem mN_ {q p : Prop} (x : q) (h : q → p := by intro x_; (with_reducible repeat (first | apply Kd.N_alloc | apply Kd.N_drewN | apply Kd.N_drew)); exact x_) : p := h x
theorem mS_ {q p : Prop} (x : q) (h : q → p := by intro x_; (with_reducible repeat (first | apply Kd.S_alloc | apply Kd.S_drewN | apply Kd.S_drew)); exact x_) : p := h x
theorem mC_ {q p : Prop} (x : q) (h : q → p := by intro x_; (with_reducible repeat (first | apply Kd.C_alloc | apply Kd.C_drewN | apply Kd.C_drew)); exact x_) : p := h x
theorem mM_ {q p : Prop} (x : q) (h : q → p := by intro x_; (with_reducible repeat (first | apply Kd.M_alloc | apply Kd.M_drewN | apply Kd.M_drew)); exact x_) : p := h x
theorem mB_ {q p : Prop} (x : q) (h : q → p := by intro x_; (with_reducible repeat (first | refine blk_drewN ?_ _ | refine blk_drew ?_ | refine blk_alloc ?_ _)); exact x_) : p := h x
theorem mQ_ {q p : Prop} (x : q) (h : q → p := by intro x_; repeat (first | (with_reducible exact x_) | (with_reducible refine Kd.C_alloc ?_ _) | (with_reducible refine Kd.C_drewN ?_ _) | (with_reducible refine Kd.C_drew ?_) | exact x_)) : p := h x
theorem za {p : Prop} (h : p := by first | (with_reducible assumption) | assumption) : p := h
theorem zm {p : Prop} (h : p := by (try simp only [mA, mB, mC]); first | done | rfl | (simp only [lD, lT]; rfl)) : p := h
theorem zz {p : Prop} (h : p := by exact any_of HT_.out (by kernel_rfl)) : p := h
theorem zr {p : Prop} (h : p := by first | rfl | (simp; done) | (simp [*]; done)) : p := h
theorem ze {p : Prop} (h : p := by rw [hg]; exact (below_size zb)) : p := h
theorem zf {q p : Prop} (x : q) (h : q → p := by intro x_; rw [hg]; exact (below_size (zs x_))) : p := h x
theorem zw {p : Prop} (h : p := by first | rfl | (simp [errW_none, errW_some] <;> rfl) | (simp [*, errW_none, errW_some] <;> rfl)) : p := h
theorem zl {q p : Prop} (x : q) (h : q → p := by intro x_; rw [hg]; exact Nat.ne_of_lt (blk_lt (mB_ x_))) : p := h x
theorem zn {q p : Prop} (x : q) (h : q → p := by intro x_; rw [hg]; exact Nat.ne_of_gt (blk_lt (mB_ x_))) : p := h x
theorem zy {q r p : Prop} (x : q) (y : r) (h : q → r → p := by intro H e_; first | (rw [e_]; with_reducible exact H) | (have H2_ := (Option.bind_some _ _).symm.trans H; rw [e_]; with_reducible exact H2_) | (have H2_ := (Option.bind_some _ _).symm.trans H; with_reducible exact H2_) | with_reducible exact H | (rw [e_]; exact H) | exact H) : p := h x y
end Go.Proofs.Ytabdmdkoffpppaa.F
section
namespace Go.Proofs.Ytabdmdkoffpppaa.F
open Go.RowKit Go.Proofs.YtabdmdkoffpppaaW.PrintWords Go.Proofs.YtabdmdkoffpppaaW.PrintLast Go.Proofs.YtabdmdkoffpppaaW.PrintMore
attribute [local go_sem] max2_int min2_int max_two min_two max_three min_three max_four min_four
set_option linter.unusedVariables false
set_option linter.unusedSimpArgs false
def errW : Option Int → Value
  | none => .nilIface
  | some c => .iface 0 (.int .i64 c)
theorem errW_none : errW none = .nilIface := rfl
theorem errW_some (c : Int) : errW (some c) = .iface 0 (.int .i64 c) := rfl
theorem info2 : (Try.prog.info? 2).map (fun i => (i.zero, i.size, i.bytes)) = some (some (.int .i64 0), 1, 8) := by kernel_rfl
theorem info3 : (Try.prog.info? 3).map (fun i => (i.zero, i.size, i.bytes)) = some (some (.int .i64 0), 1, 8) := by kernel_rfl
theorem info59 : (Try.prog.info? 59).map (fun i => (i.zero, i.size, i.bytes)) = some (some (.agg #[(.int .i64 0), (.int .i64 0)]), 2, 16) := by kernel_rfl
structure S59 where
  f0 : Int
  f1 : Int
def z59 : S59 := ⟨(0 : Int), (0 : Int)⟩
def k59 : Kd S59 := Kd.iso (Kd.pair (Kd.int .i64) (Kd.int .i64)) (fun x : S59 => (x.f0, x.f1))
theorem k59_open {w : World} {x : S59} {cs : List Value} (h : k59.K w x cs) : cs = [.int .i64 x.f0, .int .i64 x.f1] := by
  obtain ⟨_, _, rfl, rfl, rfl⟩ := h
  exact rfl
theorem k59_openM {w : World} {base : Nat} {ok : Nat → Prop} {x : S59} {cs : List Value} (h : k59.M w base ok x cs) : cs = [.int .i64 x.f0, .int .i64 x.f1] := by
  obtain ⟨_, _, rfl, rfl, rfl⟩ := h
  exact rfl
theorem k59_mkM (w : World) (base : Nat) (ok : Nat → Prop) (x : S59)  : k59.M w base ok x [.int .i64 x.f0, .int .i64 x.f1] := ⟨[.int .i64 x.f0], [.int .i64 x.f1], rfl, rfl, rfl⟩
def rd_T59 (xs : List S59) (i : Int) : S59 := xs.getD i.toNat z59
theorem at_T59 {w : World} {A : Option Addr} {n : Nat} {xs : List S59} (h : Kd.C k59 w A n xs) (i : Int) (h0 : 0 ≤ i) (h1 : i < n) : ∃ ad , A = some ad ∧ w.cell? (ad.add (i.toNat * 2)) = some (.int .i64 (rd_T59 xs i).f0) ∧ w.cell? ⟨(ad.add (i.toNat * 2)).block, (ad.add (i.toNat * 2)).off + 1, none⟩ = some (.int .i64 (rd_T59 xs i).f1) := by
  obtain ⟨ad, c, e, _, hK, hc0⟩ := Kd.C_get h z59 i h0 h1
  have hc : ∀ j u, c[j]? = some u → w.cell? (ad.add (i.toNat * 2 + j)) = some u := hc0
  obtain rfl := k59_open hK
  exact ⟨ad, e, hc 0 _ rfl, by rw [← add_field _ _ 1 (by omega)]; exact hc 1 _ rfl⟩
structure S95 where
  f0 : Int
  f1 : Int
def z95 : S95 := ⟨(0 : Int), (0 : Int)⟩
def k95 : Kd S95 := Kd.iso (Kd.pair (Kd.int .i64) (Kd.int .i64)) (fun x : S95 => (x.f0, x.f1))
theorem k95_open {w : World} {x : S95} {cs : List Value} (h : k95.K w x cs) : cs = [.int .i64 x.f0, .int .i64 x.f1] := by
  obtain ⟨_, _, rfl, rfl, rfl⟩ := h
  exact rfl
def rd_T95 (xs : List S95) (i : Int) : S95 := xs.getD i.toNat z95
theorem at_T95 {w : World} {A : Option Addr} {n : Nat} {xs : List S95} (h : Kd.C k95 w A n xs) (i : Int) (h0 : 0 ≤ i) (h1 : i < n) : ∃ ad , A = some ad ∧ w.cell? (ad.add (i.toNat * 2)) = some (.int .i64 (rd_T95 xs i).f0) ∧ w.cell? ⟨(ad.add (i.toNat * 2)).block, (ad.add (i.toNat * 2)).off + 1, none⟩ = some (.int .i64 (rd_T95 xs i).f1) := by
  obtain ⟨ad, c, e, _, hK, hc0⟩ := Kd.C_get h z95 i h0 h1
  have hc : ∀ j u, c[j]? = some u → w.cell? (ad.add (i.toNat * 2 + j)) = some u := hc0
  obtain rfl := k95_open hK
  exact ⟨ad, e, hc 0 _ rfl, by rw [← add_field _ _ 1 (by omega)]; exact hc 1 _ rfl⟩
def laws_toInt64S.l0 : Nat → List Int → List Int → Int → Option (List Int)
 | 0, _, _, _ => none
 | k + 1, x0, x3, x4 => if x4 < (x0.length : Int) then (if 0 ≤ x4 then (if x4 < (x3.length : Int) then (laws_toInt64S.l0 k x0 (x3.set (x4 : Int).toNat (rd x0 x4)) (wrap64 (x4 + 1))) else (none)) else (none)) else (some x3)
def laws_toInt64S.f (k : Nat) (l0 : List Int) : Option (List Int) := if 0 ≤ (l0.length : Int) then (if ((l0.length : Int) : Int).toNat ≤ 35184372088832 then (laws_toInt64S.l0 k l0 (List.replicate ((l0.length : Int) : Int).toNat 0) 0) else (none)) else (none)
theorem laws_toInt64S.calls (k : Nat) (A0 : Option Addr) (c0 : Nat) (l0 : List Int) (r : List Int) (w : World) (hr0 : Kd.C (Kd.int .i64) w A0 l0.length l0) (hc0 : l0.length ≤ c0) (h : laws_toInt64S.f k l0 = some r) :
  Calls Try.prog 52 #[.slice A0 l0.length c0] w fun e w' => ∃ v0_ : Value, e = .returned (v0_) ∧ Kd.R (Kd.int .i64) 2 w' w.heap.size (fun _ => True) v0_ r ∧ Below w.heap.size w w' := by
 have HR0 := aM hr0
 have HC0 := aM hc0
 clear hr0 hc0
 have HB := aM (Below.refl w.heap.size w)
 have H : (if 0 ≤ (l0.length : Int) then (if ((l0.length : Int) : Int).toNat ≤ 35184372088832 then (laws_toInt64S.l0 k l0 (List.replicate ((l0.length : Int) : Int).toNat 0) 0) else (none)) else (none)) = some r := h
 clear h
 by_cases c2 : 0 ≤ (l0.length : Int)
 rotate_left
 ·rw [if_neg c2] at H
  exact absurd H (by simp)
 rw [if_pos c2] at H
 have c2b0 := eq_true c2
 have c2b1 : decide (0 ≤ (l0.length : Int)) = true := decide_eq_true c2
 clear c2
 by_cases c3 : ((l0.length : Int) : Int).toNat ≤ 35184372088832
 rotate_left
 ·rw [if_neg c3] at H
  exact absurd H (by simp)
 rw [if_pos c3] at H
 have c3b0 := eq_true c3
 have c3b1 : decide (((l0.length : Int) : Int).toNat ≤ 35184372088832) = true := decide_eq_true c3
 clear c3
 obtain ⟨y109, hy109⟩ : ∃ y_ : List Int, y_ = (List.replicate ((l0.length : Int) : Int).toNat 0) := ⟨_, rfl⟩
 replace H : (laws_toInt64S.l0 k l0 y109 0) = some r := zy H hy109
 have Ny109 := aM hy109
 clear hy109
 have H' := aM H
 clear H
 go_enter Try.func52, Try.ntmps52
 go_wp2_with (first | ((with_reducible refine gate_dst (N := 7) rfl ?_); refine Kd.R_make (Kd.int .i64) _ 2 rfl (N := 7) rfl 22 _ _ rfl (l0.length : Int) rfl rfl Try.underlying22 (.int .i64 0) 8 info2 rfl (by decide) (by omega) 0 (ok := fun _ => True) (okp := fun _ => True) rfl (fun _ hk => hk) trivial (of_decide_eq_true za) (Nat.le_trans (Nat.mul_le_mul_right _ (of_decide_eq_true za : (l0.length : Int).toNat ≤ 35184372088832)) (by omega)) (Below.refl _ _) (Nat.le_refl _) ?_; intro v110 w4 ho5 hb hg_ hnew_; clear hg_ hnew_; (first | rw [← Ny109.out] at ho5 | (simp only [Int.reduceToNat] at ho5; rw [← Ny109.out] at ho5)); have n0_ := aM (Kd.R_lower ho5 (below_size zb)); have n1_ := aM (below_step zb hb); clear HB; have HO111 := n0_; have HB := n1_; clear n0_ n1_; clear hb ho5))
 go_loopg [4] k (fun kq v4 w' => ∃ (x3_1 : List Int) (x4_1 : Int), v4 = .int .i64 x4_1 ∧ Aside0 (laws_toInt64S.l0 kq l0 x3_1 x4_1 = some r) ∧ Aside0 (kq ≤ k) ∧ Aside0 (Kd.R (Kd.int .i64) 2 w' w.heap.size (fun _ => True) v110 x3_1) ∧ Aside0 (Below w.heap.size w w'))
 case atStart => exact ⟨(y109), (0), zr, H', ⟨Nat.le_refl _⟩, ⟨mR_ HO111.out⟩, ⟨zb⟩⟩
 case round =>
  clear H'
  try clear c2
  try clear c2b0
  try clear c2b1
  try clear p2
  try clear c3
  try clear c3b0
  try clear c3b1
  try clear c5
  obtain ⟨x3_1, x4_1, rfl, HA, HK1, HO_3, HB⟩ := hrel
  cases gk with
  | zero => exact absurd HA.out (by simp [laws_toInt64S.l0])
  | succ k1 =>
   have H := HA.out
   clear HA
   simp only [laws_toInt64S.l0] at H
   by_cases c6 : x4_1 < (l0.length : Int)
   rotate_left
   ·rw [if_neg c6] at H
    have c6b0 : decide (x4_1 < (l0.length : Int)) = false := decide_eq_false c6
    clear c6
    obtain rfl := Option.some.inj H
    go_wp2
    go_ret
    exact ⟨_, zw, mR_ HO_3.out, zb⟩
   rw [if_pos c6] at H
   have c6b0 : decide (x4_1 < (l0.length : Int)) = true := decide_eq_true c6
   clear c6
   by_cases c7 : 0 ≤ x4_1
   rotate_left
   ·rw [if_neg c7] at H
    exact absurd H (by simp)
   rw [if_pos c7] at H
   have c7b0 : decide (0 ≤ x4_1) = true := decide_eq_true c7
   clear c7
   by_cases c8 : x4_1 < (x3_1.length : Int)
   rotate_left
   ·rw [if_neg c8] at H
    exact absurd H (by simp)
   rw [if_pos c8] at H
   have c8b0 : decide (x4_1 < (x3_1.length : Int)) = true := decide_eq_true c8
   clear c8
   obtain ⟨y113, hy113⟩ : ∃ y_ : List Int, y_ = (x3_1.set (x4_1 : Int).toNat (rd l0 x4_1)) := ⟨_, rfl⟩
   replace H : (laws_toInt64S.l0 k1 l0 y113 (wrap64 (x4_1 + 1))) = some r := zy H hy113
   have Ny113 := aM hy113
   clear hy113
   have H' := aM H
   clear H
   have p112 : 0 ≤ (x4_1 : Int) := of_decide_eq_true za
   have q112 : x4_1 < (l0.length : Int) := of_decide_eq_true za
   obtain ⟨ad112, e112, hx112_0⟩ := Kd.at_int HR0.out x4_1 p112 q112
   cases e112
   replace hx112_0 := (HB.out.cell (World.block_lt_of_cell? w _ hx112_0)).trans hx112_0
   replace p112 := eq_true p112
   replace q112 := eq_true q112
   have p9 : 0 ≤ (x4_1 : Int) := of_decide_eq_true za
   have q9 : (x4_1 : Int) < ((x3_1.length : Int) : Int) := of_decide_eq_true za
   obtain ⟨go9, co9, eo9, gb9, gl9, cl9, HG9⟩ := Kd.R_form HO_3.out (by omega)
   (first | cases eo9 | (injection eo9 with ea_ en_ ec_; (first | subst ea_ | (injection ea_ with ea_; subst ea_)); subst ec_; clear en_))
   have GB9 := aM gb9
   have GG9 := aM HG9
   clear gb9 gl9 HG9
   obtain ⟨hx9_0, hf9_0⟩ := Kd.R_celln 0 HO_3.out (x4_1 : Int) p9 q9
   replace p9 := eq_true p9
   replace q9 := eq_true q9
   have HP10 := Kd.R_putg HO_3.out (x4_1 : Int) (rd l0 x4_1)
   go_wp2_with (first | ((with_reducible refine gate_store (t := 2) (p := 20) rfl ?_); refine store_event (t := 2) (p := 20) (v := ?vo_w11) (w1 := (wr.setCell ⟨go9, (x4_1 : Int).toNat, none⟩ (.int .i64 (rd l0 x4_1)))) ?hg ?ho ?hn ?hr ?_; (case ho => rfl); (case hg => rfl); (case hn => rfl); (case hr => first | (go_simp; done) | (go_simp; rfl)); intro w11 hw; have hg : wr.grownBy w11 (some go9) := (by rw [hw]; exact HP10.2); have hp_ : Kd.R (Kd.int .i64) 2 w11 w.heap.size (fun _ => True) (.slice (some ⟨go9, 0, none⟩) x3_1.length co9) y113 := (by rw [hw, Ny113.out]; exact HP10.1); clear HP10; have n0_ := aM (hp_); have n1_ := aM ((by rw [hw]; exact below_set (HB.out) GB9.out : Below w.heap.size w w11)); clear HO_3; clear HB; have HO_3 := n0_; have HB := n1_; clear n0_ n1_; clear hg hw hp_))
   go_roundg k1
   case measure => have := HK1.out; omega
   case rel => exact ⟨(y113), (wrap64 (x4_1 + 1)), zr, H', ⟨by have := HK1.out; omega⟩, ⟨mR_ HO_3.out⟩, ⟨zb⟩⟩
def laws_eqInt64S.l0 : Nat → List Int → List Int → Int → Option (Bool)
 | 0, _, _, _ => none
 | k + 1, x0, x1, x5 => if x5 < (x0.length : Int) then (if 0 ≤ x5 then (if x5 < (x1.length : Int) then (if (rd x0 x5) = (rd x1 x5) then (laws_eqInt64S.l0 k x0 x1 (wrap64 (x5 + 1))) else (some false)) else (none)) else (none)) else (some true)
def laws_eqInt64S.f (k : Nat) (l0 : List Int) (l1 : List Int) : Option (Bool) := if (l0.length : Int) = (l1.length : Int) then (laws_eqInt64S.l0 k l0 l1 0) else (some false)
theorem laws_eqInt64S.calls (k : Nat) (A0 : Option Addr) (c0 : Nat) (l0 : List Int) (A1 : Option Addr) (c1 : Nat) (l1 : List Int) (r : Bool) (w : World) (hr0 : Kd.C (Kd.int .i64) w A0 l0.length l0) (hc0 : l0.length ≤ c0) (hr1 : Kd.C (Kd.int .i64) w A1 l1.length l1) (hc1 : l1.length ≤ c1) (h : laws_eqInt64S.f k l0 l1 = some r) :
  Calls Try.prog 47 #[.slice A0 l0.length c0, .slice A1 l1.length c1] w fun e w' => e = .returned (.bool r) ∧ Drawn0 w w' := by
 have HR0 := aM hr0
 have HC0 := aM hc0
 clear hr0 hc0
 have HR1 := aM hr1
 have HC1 := aM hc1
 clear hr1 hc1
 have H : (if (l0.length : Int) = (l1.length : Int) then (laws_eqInt64S.l0 k l0 l1 0) else (some false)) = some r := h
 clear h
 by_cases c3 : (l0.length : Int) = (l1.length : Int)
 rotate_left
 ·rw [if_neg c3] at H
  have c3b0 : ((l0.length : Int) == (l1.length : Int)) = false := beq_eq_false_iff_ne.mpr c3
  have c3b1 : ((l0.length : Int) != (l1.length : Int)) = true := bne_iff_ne.mpr c3
  have c3b2 : (l0.length == l1.length) = false := by first | simpa using c3 | (simp at c3 ⊢; omega)
  obtain rfl := Option.some.inj H
  go_enter Try.func47, Try.ntmps47
  go_wp2
  repeat (go_quiet (fail); try go_wp2)
  go_ret
  exact ⟨by first | rfl | (simp; done) | (simp [*]; done), by repeat (first | exact Drawn0.refl _ | apply Drawn0.step)⟩
 rw [if_pos c3] at H
 have c3b0 : ((l0.length : Int) == (l1.length : Int)) = true := beq_iff_eq.mpr c3
 have c3b1 : ((l0.length : Int) != (l1.length : Int)) = false := bne_eq_false_iff_eq.mpr c3
 have c3b2 : (l0.length == l1.length) = true := by first | simpa using c3 | (simp at c3 ⊢; omega)
 clear c3
 have H' := aM H
 clear H
 go_enter Try.func47, Try.ntmps47
 go_wp2
 repeat (go_quiet (fail); try go_wp2)
 go_loopg [5] k (fun kq v5 w' => ∃ (x5_1 : Int), v5 = .int .i64 x5_1 ∧ Aside0 (laws_eqInt64S.l0 kq l0 l1 x5_1 = some r) ∧ Aside0 (kq ≤ k) ∧ Drawn0 w w')
 case atStart => exact ⟨(0), zr, H', ⟨Nat.le_refl _⟩, by repeat (first | exact Drawn0.refl _ | apply Drawn0.step)⟩
 case round =>
  clear H'
  try clear c1
  try clear p2
  try clear c3
  try clear c3b0
  try clear c3b1
  try clear c3b2
  obtain ⟨x5_1, rfl, HA, HK1, ⟨m1, rfl⟩⟩ := hrel
  cases gk with
  | zero => exact absurd HA.out (by simp [laws_eqInt64S.l0])
  | succ k1 =>
   have H := HA.out
   clear HA
   simp only [laws_eqInt64S.l0] at H
   by_cases c4 : x5_1 < (l0.length : Int)
   rotate_left
   ·rw [if_neg c4] at H
    have c4b0 : decide (x5_1 < (l0.length : Int)) = false := decide_eq_false c4
    clear c4
    obtain rfl := Option.some.inj H
    go_wp2
    repeat (go_quiet (fail); try go_wp2)
    go_ret
    exact ⟨by first | rfl | (simp; done) | (simp [*]; done), by repeat (first | exact Drawn0.refl _ | apply Drawn0.step)⟩
   rw [if_pos c4] at H
   have c4b0 : decide (x5_1 < (l0.length : Int)) = true := decide_eq_true c4
   clear c4
   by_cases c5 : 0 ≤ x5_1
   rotate_left
   ·rw [if_neg c5] at H
    exact absurd H (by simp)
   rw [if_pos c5] at H
   have c5b0 : decide (0 ≤ x5_1) = true := decide_eq_true c5
   clear c5
   by_cases c6 : x5_1 < (l1.length : Int)
   rotate_left
   ·rw [if_neg c6] at H
    exact absurd H (by simp)
   rw [if_pos c6] at H
   have c6b0 : decide (x5_1 < (l1.length : Int)) = true := decide_eq_true c6
   clear c6
   by_cases c7 : (rd l0 x5_1) = (rd l1 x5_1)
   rotate_left
   ·rw [if_neg c7] at H
    have c7b0 : ((rd l0 x5_1) == (rd l1 x5_1)) = false := beq_eq_false_iff_ne.mpr c7
    have c7b1 : ((rd l0 x5_1) != (rd l1 x5_1)) = true := bne_iff_ne.mpr c7
    obtain rfl := Option.some.inj H
    have p122 : 0 ≤ (x5_1 : Int) := of_decide_eq_true za
    have q122 : x5_1 < (l0.length : Int) := of_decide_eq_true za
    obtain ⟨ad122, e122, hx122_0⟩ := Kd.at_int HR0.out x5_1 p122 q122
    cases e122
    replace p122 := eq_true p122
    replace q122 := eq_true q122
    have p123 : 0 ≤ (x5_1 : Int) := of_decide_eq_true za
    have q123 : x5_1 < (l1.length : Int) := of_decide_eq_true za
    obtain ⟨ad123, e123, hx123_0⟩ := Kd.at_int HR1.out x5_1 p123 q123
    cases e123
    replace p123 := eq_true p123
    replace q123 := eq_true q123
    go_wp2
    repeat (go_quiet (fail); try go_wp2)
    go_ret
    exact ⟨by first | rfl | (simp; done) | (simp [*]; done), by repeat (first | exact Drawn0.refl _ | apply Drawn0.step)⟩
   rw [if_pos c7] at H
   have c7b0 : ((rd l0 x5_1) == (rd l1 x5_1)) = true := beq_iff_eq.mpr c7
   have c7b1 : ((rd l0 x5_1) != (rd l1 x5_1)) = false := bne_eq_false_iff_eq.mpr c7
   clear c7
   have H' := aM H
   clear H
   have p122 : 0 ≤ (x5_1 : Int) := of_decide_eq_true za
   have q122 : x5_1 < (l0.length : Int) := of_decide_eq_true za
   obtain ⟨ad122, e122, hx122_0⟩ := Kd.at_int HR0.out x5_1 p122 q122
   cases e122
   replace p122 := eq_true p122
   replace q122 := eq_true q122
   have p123 : 0 ≤ (x5_1 : Int) := of_decide_eq_true za
   have q123 : x5_1 < (l1.length : Int) := of_decide_eq_true za
   obtain ⟨ad123, e123, hx123_0⟩ := Kd.at_int HR1.out x5_1 p123 q123
   cases e123
   replace p123 := eq_true p123
   replace q123 := eq_true q123
   go_wp2
   repeat (go_quiet (fail); try go_wp2)
   go_roundg k1
   case measure => have := HK1.out; omega
   case rel => exact ⟨(wrap64 (x5_1 + 1)), zr, H', ⟨by have := HK1.out; omega⟩, by repeat (first | exact Drawn0.refl _ | apply Drawn0.step)⟩
def laws_szCellS.f (l0 : List (S95)) (a1 : Int) : Option (Int) := if (wrap64 (a1 - (l0.length : Int))) < 0 then (some (-1)) else (some (wrap64 (a1 - (l0.length : Int))))
theorem laws_szCellS.calls (A0 : Option Addr) (c0 : Nat) (l0 : List (S95)) (a1 : Int) (r : Int) (w : World) (hr0 : Kd.C k95 w A0 l0.length l0) (hc0 : l0.length ≤ c0) (h : laws_szCellS.f l0 a1 = some r) :
  Calls Try.prog 26 #[.slice A0 l0.length c0, .int .i64 a1] w fun e w' => e = .returned (.int .i64 r) ∧ Drawn0 w w' := by
 have HR0 := aM hr0
 have HC0 := aM hc0
 clear hr0 hc0
 have H : (if (wrap64 (a1 - (l0.length : Int))) < 0 then (some (-1)) else (some (wrap64 (a1 - (l0.length : Int))))) = some r := h
 clear h
 by_cases c3 : (wrap64 (a1 - (l0.length : Int))) < 0
 ·rw [if_pos c3] at H
  have c3b0 : decide ((wrap64 (a1 - (l0.length : Int))) < 0) = true := decide_eq_true c3
  clear c3
  obtain rfl := Option.some.inj H
  go_enter Try.func26, Try.ntmps26
  go_wp2
  go_ret
  exact ⟨by first | rfl | (simp; done) | (simp [*]; done), by repeat (first | exact Drawn0.refl _ | apply Drawn0.step)⟩
 rw [if_neg c3] at H
 have c3b0 : decide ((wrap64 (a1 - (l0.length : Int))) < 0) = false := decide_eq_false c3
 clear c3
 obtain rfl := Option.some.inj H
 go_enter Try.func26, Try.ntmps26
 go_wp2
 go_ret
 exact ⟨by first | rfl | (simp; done) | (simp [*]; done), by repeat (first | exact Drawn0.refl _ | apply Drawn0.step)⟩
def laws_toCell.f (a0_0 : Int) (a0_1 : Int) : Option (Int × Int) := some (a0_0, a0_1)
theorem laws_toCell.calls (a0_0 : Int) (a0_1 : Int) (r1 : Int) (r2 : Int) (w : World) (h : laws_toCell.f a0_0 a0_1 = some (r1, r2)) :
  Calls Try.prog 89 #[.agg #[.int .i64 a0_0, .int .i64 a0_1]] w fun e w' => e = .returned (.agg #[.int .i64 r1, .int .i64 r2]) ∧ Below w.heap.size w w' := by
 have hu95 := Try.underlying95
 have hu59 := Try.underlying59
 have HB := aM (Below.refl w.heap.size w)
 have H : (some (a0_0, a0_1)) = some (r1, r2) := h
 clear h
 simp only [Option.some.injEq, Prod.mk.injEq] at H
 obtain ⟨rfl, rfl⟩ := H
 go_enter Try.func89, Try.ntmps89
 go_wp2_with (first | ((with_reducible refine gate_dst (N := 1) rfl ?_); refine box_event ?hg (N := 1) ?hd (cs := #[.int .i64 a0_0, .int .i64 a0_1]) (t := 95) ?hr ?_; (case hd => rfl); (case hg => rfl); (case hr => first | (go_simp; done) | (go_simp; rfl)); intro gb339 hg w2 hbox hb; have n0_ := aM (below_step zb hb); have n1_ := aM (hbox); have n2_ := aM ((ze : w.heap.size ≤ gb339)); have n3_ := aM ((ze : w.heap.size ≤ gb339)); clear HB; have HB := n0_; have BK339 := n1_; have GW339 := n2_; have GE339 := n3_; clear n0_ n1_ n2_ n3_; clear hb hbox hg) | ((with_reducible refine gate_dst (N := 2) rfl ?_); refine box_event ?hg (N := 2) ?hd (cs := #[.int .i64 0, .int .i64 0]) (t := 59) ?hr ?_; (case hd => rfl); (case hg => rfl); (case hr => first | (go_simp; done) | (go_simp; rfl)); intro gb340 hg w3 hbox hb; have n0_ := aM (blk_below (g := gb339) (o := .cells #[.int .i64 a0_0, .int .i64 a0_1] 95 (0, 0)) (mB_ BK339.out) hb); have n1_ := aM (below_step (zs GE339.out) hb); have n2_ := aM (hbox); have n3_ := aM ((zf GE339.out : w.heap.size ≤ gb340)); have n4_ := aM ((zf GE339.out : w.heap.size ≤ gb340)); have n5_ := aM ((zl BK339.out : gb339 ≠ gb340)); have n6_ := aM ((zn BK339.out : gb340 ≠ gb339)); clear BK339; clear HB; have BK339 := n0_; have HB := n1_; have BK340 := n2_; have GW340 := n3_; have GE340 := n4_; have NB339_340 := n5_; have NB340_339 := n6_; clear n0_ n1_ n2_ n3_ n4_ n5_ n6_; clear hb hbox hg) | ((with_reducible refine gate_dst (N := 3) rfl ?_); refine box_event ?hg (N := 3) ?hd (cs := #[.int .i64 0, .int .i64 0]) (t := 59) ?hr ?_; (case hd => rfl); (case hg => rfl); (case hr => first | (go_simp; done) | (go_simp; rfl)); intro gb341 hg w4 hbox hb; have n0_ := aM (blk_below (g := gb339) (o := .cells #[.int .i64 a0_0, .int .i64 a0_1] 95 (0, 0)) (mB_ BK339.out) hb); have n1_ := aM (blk_below (g := gb340) (o := .cells #[.int .i64 0, .int .i64 0] 59 (0, 0)) (mB_ BK340.out) hb); have n2_ := aM (below_step (zt GE339.out GE340.out) hb); have n3_ := aM (hbox); have n4_ := aM ((by rw [hg]; exact (below_size (zt GE339.out GE340.out)) : w.heap.size ≤ gb341)); have n5_ := aM ((by rw [hg]; exact (below_size (zt GE339.out GE340.out)) : w.heap.size ≤ gb341)); have n6_ := aM ((zl BK339.out : gb339 ≠ gb341)); have n7_ := aM ((zn BK339.out : gb341 ≠ gb339)); have n8_ := aM ((zl BK340.out : gb340 ≠ gb341)); have n9_ := aM ((zn BK340.out : gb341 ≠ gb340)); clear BK339; clear BK340; clear HB; have BK339 := n0_; have BK340 := n1_; have HB := n2_; have BK341 := n3_; have GW341 := n4_; have GE341 := n5_; have NB339_341 := n6_; have NB341_339 := n7_; have NB340_341 := n8_; have NB341_340 := n9_; clear n0_ n1_ n2_ n3_ n4_ n5_ n6_ n7_ n8_ n9_; clear hb hbox hg; have hnb5 := NB339_340.out; have hnc5 := NB340_339.out; have hnb6 := NB339_341.out; have hnc6 := NB341_339.out; have hcz7_0 : w4.cell? ⟨gb339, 0, none⟩ = some (.int .i64 a0_0) := (blk_cell BK339.out 0).trans rfl; have hcz7_1 : w4.cell? ⟨gb339, 1, none⟩ = some (.int .i64 a0_1) := (blk_cell BK339.out 1).trans rfl; have hfz7_0 := blk_frozen BK339.out 0; have hfz7_1 := blk_frozen BK339.out 1; have hnb8 := NB341_340.out; have hnc8 := NB340_341.out; have hcz9_0 : w4.cell? ⟨gb341, 0, none⟩ = some (.int .i64 0) := (blk_cell BK341.out 0).trans rfl; have hcz9_1 : w4.cell? ⟨gb341, 1, none⟩ = some (.int .i64 0) := (blk_cell BK341.out 1).trans rfl; have hfz9_0 := blk_frozen BK341.out 0; have hfz9_1 := blk_frozen BK341.out 1; have hcz10_0 : w4.cell? ⟨gb340, 0, none⟩ = some (.int .i64 0) := (blk_cell BK340.out 0).trans rfl; have hcz10_1 : w4.cell? ⟨gb340, 1, none⟩ = some (.int .i64 0) := (blk_cell BK340.out 1).trans rfl; have hfz10_0 := blk_frozen BK340.out 0; have hfz10_1 := blk_frozen BK340.out 1))
 refine bodyPost_ret (results_cell_row rfl _ _ gb340 59 #[.int .i64 a0_0, .int .i64 a0_1] (0, 0) _ rfl (by (with_reducible repeat (first | refine blk_drewN ?_ _ | refine blk_drew ?_ | refine blk_alloc ?_ _)); refine blk_put (cs := #[.int .i64 a0_0, .int .i64 0]) ?_ 1 _ rfl; (with_reducible repeat (first | refine blk_drewN ?_ _ | refine blk_drew ?_ | refine blk_alloc ?_ _)); refine blk_put (cs := #[.int .i64 0, .int .i64 0]) ?_ 0 _ rfl; (with_reducible repeat (first | refine blk_drewN ?_ _ | refine blk_drew ?_ | refine blk_alloc ?_ _)); refine blk_far ?_ NB340_341.out _; (with_reducible repeat (first | refine blk_drewN ?_ _ | refine blk_drew ?_ | refine blk_alloc ?_ _)); refine blk_far ?_ NB340_341.out _; (with_reducible repeat (first | refine blk_drewN ?_ _ | refine blk_drew ?_ | refine blk_alloc ?_ _)); exact BK340.out) Try.underlying59 rfl (by kernel_rfl)) rfl ?_
 exact ⟨zw, by repeat (first | (with_reducible first | exact HB.out | apply below_alloc | apply pw_below_drewN | apply below_drew1 | refine below_set ?_ GE339.out | refine below_set ?_ GE340.out | refine below_set ?_ GE341.out) | exact HB.out)⟩
def laws_toCellS.l0 : Nat → List (S95) → List (S59) → Int → Option ((List (S59)))
 | 0, _, _, _ => none
 | k + 1, x0, x3, x4 => if x4 < (x0.length : Int) then (if 0 ≤ x4 then ((laws_toCell.f ((rd_T95 x0 x4).f0) ((rd_T95 x0 x4).f1)).bind fun bt346 => (if x4 < (x3.length : Int) then (laws_toCellS.l0 k x0 (x3.set (x4 : Int).toNat (⟨bt346.1, bt346.2⟩ : S59)) (wrap64 (x4 + 1))) else (none))) else (none)) else (some x3)
def laws_toCellS.f (k : Nat) (l0 : List (S95)) : Option ((List (S59))) := if 0 ≤ (l0.length : Int) then (if ((l0.length : Int) : Int).toNat ≤ 17592186044416 then (laws_toCellS.l0 k l0 (List.replicate ((l0.length : Int) : Int).toNat z59) 0) else (none)) else (none)
theorem laws_toCellS.calls (k : Nat) (A0 : Option Addr) (c0 : Nat) (l0 : List (S95)) (r : List (S59)) (w : World) (hr0 : Kd.C k95 w A0 l0.length l0) (hc0 : l0.length ≤ c0) (h : laws_toCellS.f k l0 = some r) :
  Calls Try.prog 28 #[.slice A0 l0.length c0] w fun e w' => ∃ v0_ : Value, e = .returned (v0_) ∧ Kd.R k59 59 w' w.heap.size (fun _ => True) v0_ r ∧ Below w.heap.size w w' := by
 have hu95 := Try.underlying95
 have hu59 := Try.underlying59
 have HR0 := aM hr0
 have HC0 := aM hc0
 clear hr0 hc0
 have HB := aM (Below.refl w.heap.size w)
 have H : (if 0 ≤ (l0.length : Int) then (if ((l0.length : Int) : Int).toNat ≤ 17592186044416 then (laws_toCellS.l0 k l0 (List.replicate ((l0.length : Int) : Int).toNat z59) 0) else (none)) else (none)) = some r := h
 clear h
 by_cases c2 : 0 ≤ (l0.length : Int)
 rotate_left
 ·rw [if_neg c2] at H
  exact absurd H (by simp)
 rw [if_pos c2] at H
 have c2b0 := eq_true c2
 have c2b1 : decide (0 ≤ (l0.length : Int)) = true := decide_eq_true c2
 clear c2
 by_cases c3 : ((l0.length : Int) : Int).toNat ≤ 17592186044416
 rotate_left
 ·rw [if_neg c3] at H
  exact absurd H (by simp)
 rw [if_pos c3] at H
 have c3b0 := eq_true c3
 have c3b1 : decide (((l0.length : Int) : Int).toNat ≤ 17592186044416) = true := decide_eq_true c3
 clear c3
 obtain ⟨y342, hy342⟩ : ∃ y_ : List (S59), y_ = (List.replicate ((l0.length : Int) : Int).toNat z59) := ⟨_, rfl⟩
 replace H : (laws_toCellS.l0 k l0 y342 0) = some r := zy H hy342
 have Ny342 := aM hy342
 clear hy342
 have H' := aM H
 clear H
 go_enter Try.func28, Try.ntmps28
 go_wp2_with (first | ((with_reducible refine gate_dst (N := 7) rfl ?_); refine Kd.R_make k59 _ 59 rfl (N := 7) rfl 43 _ _ rfl (l0.length : Int) rfl rfl Try.underlying43 (.agg #[(.int .i64 0), (.int .i64 0)]) 16 info59 rfl (by decide) (by omega) z59 (ok := fun _ => True) (okp := fun _ => True) (k59_mkM _ _ _ z59 ) (fun _ hk => hk) trivial (of_decide_eq_true za) (Nat.le_trans (Nat.mul_le_mul_right _ (of_decide_eq_true za : (l0.length : Int).toNat ≤ 17592186044416)) (by omega)) (Below.refl _ _) (Nat.le_refl _) ?_; intro v343 w4 ho5 hb hg_ hnew_; clear hg_ hnew_; (first | rw [← Ny342.out] at ho5 | (simp only [Int.reduceToNat] at ho5; rw [← Ny342.out] at ho5)); have n0_ := aM (Kd.R_lower ho5 (below_size zb)); have n1_ := aM (below_step zb hb); clear HB; have HO344 := n0_; have HB := n1_; clear n0_ n1_; clear hb ho5))
 go_loopg [4] k (fun kq v4 w' => ∃ (x3_1 : List (S59)) (x4_1 : Int), v4 = .int .i64 x4_1 ∧ Aside0 (laws_toCellS.l0 kq l0 x3_1 x4_1 = some r) ∧ Aside0 (kq ≤ k) ∧ Aside0 (Kd.R k59 59 w' w.heap.size (fun _ => True) v343 x3_1) ∧ Aside0 (Below w.heap.size w w'))
 case atStart => exact ⟨(y342), (0), zr, H', ⟨Nat.le_refl _⟩, ⟨mR_ HO344.out⟩, ⟨zb⟩⟩
 case round =>
  clear H'
  try clear c2
  try clear c2b0
  try clear c2b1
  try clear p2
  try clear c3
  try clear c3b0
  try clear c3b1
  obtain ⟨x3_1, x4_1, rfl, HA, HK1, HO_3, HB⟩ := hrel
  cases gk with
  | zero => exact absurd HA.out (by simp [laws_toCellS.l0])
  | succ k1 =>
   have H := HA.out
   clear HA
   simp only [laws_toCellS.l0] at H
   by_cases c6 : x4_1 < (l0.length : Int)
   rotate_left
   ·rw [if_neg c6] at H
    have c6b0 : decide (x4_1 < (l0.length : Int)) = false := decide_eq_false c6
    clear c6
    obtain rfl := Option.some.inj H
    go_wp2
    go_ret
    exact ⟨_, zw, mR_ HO_3.out, zb⟩
   rw [if_pos c6] at H
   have c6b0 : decide (x4_1 < (l0.length : Int)) = true := decide_eq_true c6
   clear c6
   by_cases c7 : 0 ≤ x4_1
   rotate_left
   ·rw [if_neg c7] at H
    exact absurd H (by simp)
   rw [if_pos c7] at H
   have c7b0 : decide (0 ≤ x4_1) = true := decide_eq_true c7
   clear c7
   replace H := Option.bind_eq_some_iff.mp H
   obtain ⟨⟨t346, t347⟩, A80, H⟩ := H
   replace H : (if x4_1 < (x3_1.length : Int) then (laws_toCellS.l0 k1 l0 (x3_1.set (x4_1 : Int).toNat (⟨t346, t347⟩ : S59)) (wrap64 (x4_1 + 1))) else (none)) = some r := H
   have A8 := aM A80
   clear A80
   by_cases c9 : x4_1 < (x3_1.length : Int)
   rotate_left
   ·rw [if_neg c9] at H
    exact absurd H (by simp)
   rw [if_pos c9] at H
   have c9b0 : decide (x4_1 < (x3_1.length : Int)) = true := decide_eq_true c9
   clear c9
   obtain ⟨y348, hy348⟩ : ∃ y_ : List (S59), y_ = (x3_1.set (x4_1 : Int).toNat (⟨t346, t347⟩ : S59)) := ⟨_, rfl⟩
   replace H : (laws_toCellS.l0 k1 l0 y348 (wrap64 (x4_1 + 1))) = some r := zy H hy348
   have Ny348 := aM hy348
   clear hy348
   have H' := aM H
   clear H
   have p345 : 0 ≤ (x4_1 : Int) := of_decide_eq_true za
   have q345 : x4_1 < (l0.length : Int) := of_decide_eq_true za
   obtain ⟨ad345, e345, hx345_0, hx345_1⟩ := at_T95 HR0.out x4_1 p345 q345
   cases e345
   replace hx345_0 := (HB.out.cell (World.block_lt_of_cell? w _ hx345_0)).trans hx345_0
   replace hx345_1 := (HB.out.cell (World.block_lt_of_cell? w _ hx345_1)).trans hx345_1
   replace p345 := eq_true p345
   replace q345 := eq_true q345
   go_wp2_with (first | ((with_reducible refine gate_callee (f := 89) rfl ?_); refine goesL_ (some 20) rfl rfl Try.func89 (by kernel_rfl) rfl #[.agg #[.int .i64 ((rd_T95 l0 x4_1).f0), .int .i64 ((rd_T95 l0 x4_1).f1)]] rfl zm ?_; (with_reducible refine (laws_toCell.calls ((rd_T95 l0 x4_1).f0) ((rd_T95 l0 x4_1).f1) t346 t347 _ A8.out).mono ?_); rintro e w11 ⟨rfl, hb⟩; refine ⟨_, rfl, ?_⟩; have n0_ := aM (Kd.R_below (mR_ HO_3.out) hb); have n1_ := aM (below_step zb hb); clear HO_3; clear HB; have HO_3 := n0_; have HB := n1_; clear n0_ n1_; (try clear hb); (try clear hb2); (try clear hk); (try clear hi); have p10 : 0 ≤ (x4_1 : Int) := of_decide_eq_true za; have q10 : (x4_1 : Int) < ((x3_1.length : Int) : Int) := of_decide_eq_true za; obtain ⟨go10, co10, eo10, gb10, gl10, cl10, HG10⟩ := Kd.R_form HO_3.out (by omega); (first | cases eo10 | (injection eo10 with ea_ en_ ec_; (first | subst ea_ | (injection ea_ with ea_; subst ea_)); subst ec_; clear en_)); have GB10 := aM gb10; have GG10 := aM HG10; clear gb10 gl10 HG10; obtain ⟨ce10, hcl10, hM10, hcc10, hfr10⟩ := Kd.R_elem HO_3.out z59 (x4_1 : Int) p10 q10; obtain rfl := k59_openM hM10; have hx10_0 : w11.cell? ⟨go10, (x4_1 : Int).toNat * 2, none⟩ = some (.int .i64 ((rd_T59 x3_1 x4_1).f0)) := hcc10 0 _ rfl; have hx10_1 : w11.cell? ⟨go10, (x4_1 : Int).toNat * 2 + 1, none⟩ = some (.int .i64 ((rd_T59 x3_1 x4_1).f1)) := hcc10 1 _ rfl; have hf10_0 : w11.frozen? ⟨go10, (x4_1 : Int).toNat * 2, none⟩ = false := hfr10 0; have hf10_1 : w11.frozen? ⟨go10, (x4_1 : Int).toNat * 2 + 1, none⟩ = false := hfr10 1; clear hcl10 hcc10 hfr10 hM10; replace p10 := eq_true p10; replace q10 := eq_true q10; have HX12 := aM (show Kd.R k59 59 w11 w.heap.size (fun _ => True) (.slice (some ⟨go10, 0, none⟩) x3_1.length co10) x3_1 from (mR_ HO_3.out)); obtain ⟨ce12, hcl12, hM12, hcc12, hfr12⟩ := Kd.R_elem HX12.out z59 (x4_1 : Int) (of_decide_eq_true za) (by have h_ : (x4_1 : Int) < ((x3_1.length : Int) : Int) := of_decide_eq_true za; first | exact h_ | (have e_ := (Kd.R_reads' HO_3.out).1; omega) | simpa using h_); obtain rfl := k59_openM hM12; have HP12 := Kd.R_seg HX12.out (x4_1 : Int) (of_decide_eq_true za) (by have h_ : (x4_1 : Int) < ((x3_1.length : Int) : Int) := of_decide_eq_true za; first | exact h_ | (have e_ := (Kd.R_reads' HO_3.out).1; omega) | simpa using h_) (seg := [.int .i64 t346, .int .i64 t347]) (j := 0) hcl12 hcc12 (show 2 ≤ 2 from by decide) (x' := (⟨t346, t347⟩ : S59)) (k59_mkM _ _ _ (⟨t346, t347⟩ : S59) ) (fun _ hk => hk); have hx12_0 := hcc12 0 _ rfl; (try simp only [show (k59).sz = 2 from rfl, Nat.mul_one, Nat.add_zero] at hx12_0); have hf12_0 := hfr12 0; (try simp only [show (k59).sz = 2 from rfl, Nat.mul_one, Nat.add_zero] at hf12_0); have hx12_1 := hcc12 1 _ rfl; (try simp only [show (k59).sz = 2 from rfl, Nat.mul_one, Nat.add_zero] at hx12_1); have hf12_1 := hfr12 1; (try simp only [show (k59).sz = 2 from rfl, Nat.mul_one, Nat.add_zero] at hf12_1); clear hcl12 hcc12 hfr12 hM12) | ((with_reducible refine gate_store (t := 59) (p := 21) rfl ?_); refine store_event (t := 59) (p := 21) (v := ?vo_w13) (w1 := ((w11.setCell ⟨go10, (x4_1 : Int).toNat * 2, none⟩ (.int .i64 t346)).setCell ⟨go10, (x4_1 : Int).toNat * 2 + 1, none⟩ (.int .i64 t347))) ?hg ?ho ?hn ?hr ?_; (case ho => rfl); (case hg => rfl); (case hn => rfl); (case hr => first | (go_simp; done) | (go_simp; rfl)); intro w13 hw; have hg : w11.grownBy w13 (some go10) := (by rw [hw]; exact HP12.2); have hp_ : Kd.R k59 59 w13 w.heap.size (fun _ => True) (.slice (some ⟨go10, 0, none⟩) x3_1.length co10) y348 := (by rw [hw, Ny348.out]; exact HP12.1); clear HP12; have n0_ := aM (hp_); have n1_ := aM ((by rw [hw]; exact below_set (below_set (HB.out) GB10.out) GB10.out : Below w.heap.size w w13)); clear HO_3; clear HB; have HO_3 := n0_; have HB := n1_; clear n0_ n1_; clear hg hw hp_))
   go_roundg k1
   case measure => have := HK1.out; omega
   case rel => exact ⟨(y348), (wrap64 (x4_1 + 1)), zr, H', ⟨by have := HK1.out; omega⟩, ⟨mR_ HO_3.out⟩, ⟨zb⟩⟩
def laws_eqCell.f (a0_0 : Int) (a0_1 : Int) (a1_0 : Int) (a1_1 : Int) : Option (Bool) := if a0_0 = a1_0 then (if a0_1 = a1_1 then (some true) else (some false)) else (some false)
theorem laws_eqCell.calls (a0_0 : Int) (a0_1 : Int) (a1_0 : Int) (a1_1 : Int) (r : Bool) (w : World) (h : laws_eqCell.f a0_0 a0_1 a1_0 a1_1 = some r) :
  Calls Try.prog 92 #[.agg #[.int .i64 a0_0, .int .i64 a0_1], .agg #[.int .i64 a1_0, .int .i64 a1_1]] w fun e w' => e = .returned (.bool r) ∧ Below w.heap.size w w' := by
 have hu59 := Try.underlying59
 have HB := aM (Below.refl w.heap.size w)
 have H : (if a0_0 = a1_0 then (if a0_1 = a1_1 then (some true) else (some false)) else (some false)) = some r := h
 clear h
 by_cases c3 : a0_0 = a1_0
 rotate_left
 ·rw [if_neg c3] at H
  have c3b0 : (a0_0 == a1_0) = false := beq_eq_false_iff_ne.mpr c3
  have c3b1 : (a0_0 != a1_0) = true := bne_iff_ne.mpr c3
  obtain rfl := Option.some.inj H
  go_enter Try.func92, Try.ntmps92
  go_wp2_with (first | ((with_reducible refine gate_dst (N := 2) rfl ?_); refine box_event ?hg (N := 2) ?hd (cs := #[.int .i64 a0_0, .int .i64 a0_1]) (t := 59) ?hr ?_; (case hd => rfl); (case hg => rfl); (case hr => first | (go_simp; done) | (go_simp; rfl)); intro gb360 hg w15 hbox hb; have n0_ := aM (below_step zb hb); have n1_ := aM (hbox); have n2_ := aM ((ze : w.heap.size ≤ gb360)); have n3_ := aM ((ze : w.heap.size ≤ gb360)); clear HB; have HB := n0_; have BK360 := n1_; have GW360 := n2_; have GE360 := n3_; clear n0_ n1_ n2_ n3_; clear hb hbox hg) | ((with_reducible refine gate_dst (N := 3) rfl ?_); refine box_event ?hg (N := 3) ?hd (cs := #[.int .i64 a1_0, .int .i64 a1_1]) (t := 59) ?hr ?_; (case hd => rfl); (case hg => rfl); (case hr => first | (go_simp; done) | (go_simp; rfl)); intro gb361 hg w16 hbox hb; have n0_ := aM (blk_below (g := gb360) (o := .cells #[.int .i64 a0_0, .int .i64 a0_1] 59 (0, 0)) (mB_ BK360.out) hb); have n1_ := aM (below_step (zs GE360.out) hb); have n2_ := aM (hbox); have n3_ := aM ((zf GE360.out : w.heap.size ≤ gb361)); have n4_ := aM ((zf GE360.out : w.heap.size ≤ gb361)); have n5_ := aM ((zl BK360.out : gb360 ≠ gb361)); have n6_ := aM ((zn BK360.out : gb361 ≠ gb360)); clear BK360; clear HB; have BK360 := n0_; have HB := n1_; have BK361 := n2_; have GW361 := n3_; have GE361 := n4_; have NB360_361 := n5_; have NB361_360 := n6_; clear n0_ n1_ n2_ n3_ n4_ n5_ n6_; clear hb hbox hg; have hnb17 := NB360_361.out; have hnc17 := NB361_360.out; have hcz18_0 : w16.cell? ⟨gb360, 0, none⟩ = some (.int .i64 a0_0) := (blk_cell BK360.out 0).trans rfl; have hcz18_1 : w16.cell? ⟨gb360, 1, none⟩ = some (.int .i64 a0_1) := (blk_cell BK360.out 1).trans rfl; have hfz18_0 := blk_frozen BK360.out 0; have hfz18_1 := blk_frozen BK360.out 1; have hcz19_0 : w16.cell? ⟨gb361, 0, none⟩ = some (.int .i64 a1_0) := (blk_cell BK361.out 0).trans rfl; have hcz19_1 : w16.cell? ⟨gb361, 1, none⟩ = some (.int .i64 a1_1) := (blk_cell BK361.out 1).trans rfl; have hfz19_0 := blk_frozen BK361.out 0; have hfz19_1 := blk_frozen BK361.out 1))
  go_ret
  exact ⟨zw, zt GE360.out GE361.out⟩
 rw [if_pos c3] at H
 have c3b0 : (a0_0 == a1_0) = true := beq_iff_eq.mpr c3
 have c3b1 : (a0_0 != a1_0) = false := bne_eq_false_iff_eq.mpr c3
 clear c3
 by_cases c4 : a0_1 = a1_1
 rotate_left
 ·rw [if_neg c4] at H
  have c4b0 : (a0_1 == a1_1) = false := beq_eq_false_iff_ne.mpr c4
  have c4b1 : (a0_1 != a1_1) = true := bne_iff_ne.mpr c4
  obtain rfl := Option.some.inj H
  go_enter Try.func92, Try.ntmps92
  go_wp2_with (first | ((with_reducible refine gate_dst (N := 2) rfl ?_); refine box_event ?hg (N := 2) ?hd (cs := #[.int .i64 a0_0, .int .i64 a0_1]) (t := 59) ?hr ?_; (case hd => rfl); (case hg => rfl); (case hr => first | (go_simp; done) | (go_simp; rfl)); intro gb360 hg w10 hbox hb; have n0_ := aM (below_step zb hb); have n1_ := aM (hbox); have n2_ := aM ((ze : w.heap.size ≤ gb360)); have n3_ := aM ((ze : w.heap.size ≤ gb360)); clear HB; have HB := n0_; have BK360 := n1_; have GW360 := n2_; have GE360 := n3_; clear n0_ n1_ n2_ n3_; clear hb hbox hg) | ((with_reducible refine gate_dst (N := 3) rfl ?_); refine box_event ?hg (N := 3) ?hd (cs := #[.int .i64 a1_0, .int .i64 a1_1]) (t := 59) ?hr ?_; (case hd => rfl); (case hg => rfl); (case hr => first | (go_simp; done) | (go_simp; rfl)); intro gb361 hg w11 hbox hb; have n0_ := aM (blk_below (g := gb360) (o := .cells #[.int .i64 a0_0, .int .i64 a0_1] 59 (0, 0)) (mB_ BK360.out) hb); have n1_ := aM (below_step (zs GE360.out) hb); have n2_ := aM (hbox); have n3_ := aM ((zf GE360.out : w.heap.size ≤ gb361)); have n4_ := aM ((zf GE360.out : w.heap.size ≤ gb361)); have n5_ := aM ((zl BK360.out : gb360 ≠ gb361)); have n6_ := aM ((zn BK360.out : gb361 ≠ gb360)); clear BK360; clear HB; have BK360 := n0_; have HB := n1_; have BK361 := n2_; have GW361 := n3_; have GE361 := n4_; have NB360_361 := n5_; have NB361_360 := n6_; clear n0_ n1_ n2_ n3_ n4_ n5_ n6_; clear hb hbox hg; have hnb12 := NB360_361.out; have hnc12 := NB361_360.out; have hcz13_0 : w11.cell? ⟨gb360, 0, none⟩ = some (.int .i64 a0_0) := (blk_cell BK360.out 0).trans rfl; have hcz13_1 : w11.cell? ⟨gb360, 1, none⟩ = some (.int .i64 a0_1) := (blk_cell BK360.out 1).trans rfl; have hfz13_0 := blk_frozen BK360.out 0; have hfz13_1 := blk_frozen BK360.out 1; have hcz14_0 : w11.cell? ⟨gb361, 0, none⟩ = some (.int .i64 a1_0) := (blk_cell BK361.out 0).trans rfl; have hcz14_1 : w11.cell? ⟨gb361, 1, none⟩ = some (.int .i64 a1_1) := (blk_cell BK361.out 1).trans rfl; have hfz14_0 := blk_frozen BK361.out 0; have hfz14_1 := blk_frozen BK361.out 1))
  go_ret
  exact ⟨zw, zt GE360.out GE361.out⟩
 rw [if_pos c4] at H
 have c4b0 : (a0_1 == a1_1) = true := beq_iff_eq.mpr c4
 have c4b1 : (a0_1 != a1_1) = false := bne_eq_false_iff_eq.mpr c4
 clear c4
 obtain rfl := Option.some.inj H
 go_enter Try.func92, Try.ntmps92
 go_wp2_with (first | ((with_reducible refine gate_dst (N := 2) rfl ?_); refine box_event ?hg (N := 2) ?hd (cs := #[.int .i64 a0_0, .int .i64 a0_1]) (t := 59) ?hr ?_; (case hd => rfl); (case hg => rfl); (case hr => first | (go_simp; done) | (go_simp; rfl)); intro gb360 hg w5 hbox hb; have n0_ := aM (below_step zb hb); have n1_ := aM (hbox); have n2_ := aM ((ze : w.heap.size ≤ gb360)); have n3_ := aM ((ze : w.heap.size ≤ gb360)); clear HB; have HB := n0_; have BK360 := n1_; have GW360 := n2_; have GE360 := n3_; clear n0_ n1_ n2_ n3_; clear hb hbox hg) | ((with_reducible refine gate_dst (N := 3) rfl ?_); refine box_event ?hg (N := 3) ?hd (cs := #[.int .i64 a1_0, .int .i64 a1_1]) (t := 59) ?hr ?_; (case hd => rfl); (case hg => rfl); (case hr => first | (go_simp; done) | (go_simp; rfl)); intro gb361 hg w6 hbox hb; have n0_ := aM (blk_below (g := gb360) (o := .cells #[.int .i64 a0_0, .int .i64 a0_1] 59 (0, 0)) (mB_ BK360.out) hb); have n1_ := aM (below_step (zs GE360.out) hb); have n2_ := aM (hbox); have n3_ := aM ((zf GE360.out : w.heap.size ≤ gb361)); have n4_ := aM ((zf GE360.out : w.heap.size ≤ gb361)); have n5_ := aM ((zl BK360.out : gb360 ≠ gb361)); have n6_ := aM ((zn BK360.out : gb361 ≠ gb360)); clear BK360; clear HB; have BK360 := n0_; have HB := n1_; have BK361 := n2_; have GW361 := n3_; have GE361 := n4_; have NB360_361 := n5_; have NB361_360 := n6_; clear n0_ n1_ n2_ n3_ n4_ n5_ n6_; clear hb hbox hg; have hnb7 := NB360_361.out; have hnc7 := NB361_360.out; have hcz8_0 : w6.cell? ⟨gb360, 0, none⟩ = some (.int .i64 a0_0) := (blk_cell BK360.out 0).trans rfl; have hcz8_1 : w6.cell? ⟨gb360, 1, none⟩ = some (.int .i64 a0_1) := (blk_cell BK360.out 1).trans rfl; have hfz8_0 := blk_frozen BK360.out 0; have hfz8_1 := blk_frozen BK360.out 1; have hcz9_0 : w6.cell? ⟨gb361, 0, none⟩ = some (.int .i64 a1_0) := (blk_cell BK361.out 0).trans rfl; have hcz9_1 : w6.cell? ⟨gb361, 1, none⟩ = some (.int .i64 a1_1) := (blk_cell BK361.out 1).trans rfl; have hfz9_0 := blk_frozen BK361.out 0; have hfz9_1 := blk_frozen BK361.out 1))
 go_ret
 exact ⟨zw, zt GE360.out GE361.out⟩
def laws_eqCellS.l0 : Nat → List (S59) → List (S59) → Int → Option (Bool)
 | 0, _, _, _ => none
 | k + 1, x0, x1, x5 => if x5 < (x0.length : Int) then (if 0 ≤ x5 then (if x5 < (x1.length : Int) then ((laws_eqCell.f ((rd_T59 x0 x5).f0) ((rd_T59 x0 x5).f1) ((rd_T59 x1 x5).f0) ((rd_T59 x1 x5).f1)).bind fun t364 => (if t364 = true then (laws_eqCellS.l0 k x0 x1 (wrap64 (x5 + 1))) else (some false))) else (none)) else (none)) else (some true)
def laws_eqCellS.f (k : Nat) (l0 : List (S59)) (l1 : List (S59)) : Option (Bool) := if (l0.length : Int) = (l1.length : Int) then (laws_eqCellS.l0 k l0 l1 0) else (some false)
def laws_eqCellS.T6 : Bool × List (List Nat × List Nat) := (true, [([], []), ([], []), ([0, 1], [0, 1]), ([2], [2]), ([], []), ([], []), ([4, 5], [4, 5]), ([6], [6]), ([3, 7], [3, 7]), ([8], [8])])
def laws_eqCellS.B6 : List Nat := [0, 0, 3, 7, 0, 0, 48, 112, 255, 511]
theorem laws_eqCellS.tab6 : rtab .any (opsOf Try.f30 6) = laws_eqCellS.T6 := by kernel_rfl
theorem laws_eqCellS.bits6 : waitsOk laws_eqCellS.T6.2 laws_eqCellS.B6 = true := by kernel_rfl
theorem laws_eqCellS.calls (k : Nat) (A0 : Option Addr) (c0 : Nat) (l0 : List (S59)) (A1 : Option Addr) (c1 : Nat) (l1 : List (S59)) (r : Bool) (w : World) (hr0 : Kd.C k59 w A0 l0.length l0) (hc0 : l0.length ≤ c0) (hr1 : Kd.C k59 w A1 l1.length l1) (hc1 : l1.length ≤ c1) (h : laws_eqCellS.f k l0 l1 = some r) :
  Calls Try.prog 30 #[.slice A0 l0.length c0, .slice A1 l1.length c1] w fun e w' => e = .returned (.bool r) ∧ Below w.heap.size w w' := by
 have hu59 := Try.underlying59
 have HR0 := aM hr0
 have HC0 := aM hc0
 clear hr0 hc0
 have HR1 := aM hr1
 have HC1 := aM hc1
 clear hr1 hc1
 have HB := aM (Below.refl w.heap.size w)
 have H : (if (l0.length : Int) = (l1.length : Int) then (laws_eqCellS.l0 k l0 l1 0) else (some false)) = some r := h
 clear h
 by_cases c3 : (l0.length : Int) = (l1.length : Int)
 rotate_left
 ·rw [if_neg c3] at H
  have c3b0 : ((l0.length : Int) == (l1.length : Int)) = false := beq_eq_false_iff_ne.mpr c3
  have c3b1 : ((l0.length : Int) != (l1.length : Int)) = true := bne_iff_ne.mpr c3
  have c3b2 : (l0.length == l1.length) = false := by first | simpa using c3 | (simp at c3 ⊢; omega)
  obtain rfl := Option.some.inj H
  go_enter Try.func30, Try.ntmps30
  go_wp2
  go_ret
  exact ⟨zw, zb⟩
 rw [if_pos c3] at H
 have c3b0 : ((l0.length : Int) == (l1.length : Int)) = true := beq_iff_eq.mpr c3
 have c3b1 : ((l0.length : Int) != (l1.length : Int)) = false := bne_eq_false_iff_eq.mpr c3
 have c3b2 : (l0.length == l1.length) = true := by first | simpa using c3 | (simp at c3 ⊢; omega)
 clear c3
 have H' := aM H
 clear H
 go_enter Try.func30, Try.ntmps30
 go_wp2
 go_loopg [5] k (fun kq v5 w' => ∃ (x5_1 : Int), v5 = .int .i64 x5_1 ∧ Aside0 (laws_eqCellS.l0 kq l0 l1 x5_1 = some r) ∧ Aside0 (kq ≤ k) ∧ Aside0 (Below w.heap.size w w'))
 case atStart => exact ⟨(0), zr, H', ⟨Nat.le_refl _⟩, ⟨zb⟩⟩
 case round =>
  clear H'
  try clear c1
  try clear p2
  try clear c3
  try clear c3b0
  try clear c3b1
  try clear c3b2
  obtain ⟨x5_1, rfl, HA, HK1, HB⟩ := hrel
  cases gk with
  | zero => exact absurd HA.out (by simp [laws_eqCellS.l0])
  | succ k1 =>
   have H := HA.out
   clear HA
   simp only [laws_eqCellS.l0] at H
   by_cases c4 : x5_1 < (l0.length : Int)
   rotate_left
   ·rw [if_neg c4] at H
    have c4b0 : decide (x5_1 < (l0.length : Int)) = false := decide_eq_false c4
    clear c4
    obtain rfl := Option.some.inj H
    go_wp2
    go_ret
    exact ⟨zw, zb⟩
   rw [if_pos c4] at H
   have c4b0 : decide (x5_1 < (l0.length : Int)) = true := decide_eq_true c4
   clear c4
   by_cases c5 : 0 ≤ x5_1
   rotate_left
   ·rw [if_neg c5] at H
    exact absurd H (by simp)
   rw [if_pos c5] at H
   have c5b0 : decide (0 ≤ x5_1) = true := decide_eq_true c5
   clear c5
   by_cases c6 : x5_1 < (l1.length : Int)
   rotate_left
   ·rw [if_neg c6] at H
    exact absurd H (by simp)
   rw [if_pos c6] at H
   have c6b0 : decide (x5_1 < (l1.length : Int)) = true := decide_eq_true c6
   clear c6
   replace H := Option.bind_eq_some_iff.mp H
   obtain ⟨t364, A70, H⟩ := H
   replace H : (if t364 = true then (laws_eqCellS.l0 k1 l0 l1 (wrap64 (x5_1 + 1))) else (some false)) = some r := H
   have A7 := aM A70
   clear A70
   by_cases c8 : t364 = true
   rotate_left
   ·replace c8 := Bool.eq_false_iff.mpr c8
    subst c8
    have H1 : (some false) = some r := by rw [if_neg (show ¬ (false = true) by decide)] at H; exact H
    clear H
    have H := H1
    clear H1
    obtain rfl := Option.some.inj H
    try go_wp2
    have n0_ := aM (below_drew1 HB.out)
    clear HB
    have HB := n0_
    clear n0_
    have p362 : 0 ≤ (x5_1 : Int) := of_decide_eq_true za
    have q362 : x5_1 < (l0.length : Int) := of_decide_eq_true za
    obtain ⟨ad362, e362, hx362_0, hx362_1⟩ := at_T59 HR0.out x5_1 p362 q362
    have hw362_1 := hx362_1
    have hw362_0 := hx362_0
    cases e362
    replace hx362_0 := (HB.out.cell (World.block_lt_of_cell? w _ hx362_0)).trans hx362_0
    replace hx362_1 := (HB.out.cell (World.block_lt_of_cell? w _ hx362_1)).trans hx362_1
    replace p362 := eq_true p362
    replace q362 := eq_true q362
    have p363 : 0 ≤ (x5_1 : Int) := of_decide_eq_true za
    have q363 : x5_1 < (l1.length : Int) := of_decide_eq_true za
    obtain ⟨ad363, e363, hx363_0, hx363_1⟩ := at_T59 HR1.out x5_1 p363 q363
    have hw363_1 := hx363_1
    have hw363_0 := hx363_0
    cases e363
    replace hx363_0 := (HB.out.cell (World.block_lt_of_cell? w _ hx363_0)).trans hx363_0
    replace hx363_1 := (HB.out.cell (World.block_lt_of_cell? w _ hx363_1)).trans hx363_1
    replace p363 := eq_true p363
    replace q363 := eq_true q363
    refine start_ (n := 10) (S := fun w' => w'.cell? (ad362.add ((x5_1).toNat * 2)) = some (.int .i64 ((rd_T59 l0 x5_1).f0)) ∧ w'.cell? ⟨(ad362.add ((x5_1).toNat * 2)).block, (ad362.add ((x5_1).toNat * 2)).off + 1, none⟩ = some (.int .i64 ((rd_T59 l0 x5_1).f1)) ∧ w'.cell? (ad363.add ((x5_1).toNat * 2)) = some (.int .i64 ((rd_T59 l1 x5_1).f0)) ∧ w'.cell? ⟨(ad363.add ((x5_1).toNat * 2)).block, (ad363.add ((x5_1).toNat * 2)).off + 1, none⟩ = some (.int .i64 ((rd_T59 l1 x5_1).f1))) (ds := []) #[false, false, false, false, false, false, false, false, false, false] (by kernel_rfl) rfl rfl ⟨((HB.out.cell (World.block_lt_of_cell? w _ hw362_0)).trans hw362_0), ((HB.out.cell (World.block_lt_of_cell? w _ hw362_1)).trans hw362_1), ((HB.out.cell (World.block_lt_of_cell? w _ hw363_0)).trans hw363_0), ((HB.out.cell (World.block_lt_of_cell? w _ hw363_1)).trans hw363_1)⟩ (fun hHeld => ?_); refine with_tabW laws_eqCellS.tab6 laws_eqCellS.bits6 (fun HT_ HW_ => ?_)
    generalize wr.drew = w11 at HB hx362_0 hx362_1 hx363_0 hx363_1 hHeld ⊢
    refine pure_ (i := 0) (N := some 17) (v := ?_) (a' := ?_) #[true, false, false, false, false, false, false, false, false, false] rfl rfl zz (fun _ _ _ h => h) (Or.inl ⟨by rfl, ?_⟩) ?_ ?_
    rotate_left
    ·intro w'
     go_simp
     with_reducible rfl
    rotate_left
    ·simp only [Act.put, xA, xB, xC, i64_w, i32_w]
     rfl
    refine pure_ (i := 1) (N := some 18) (v := ?_) (a' := ?_) #[true, true, false, false, false, false, false, false, false, false] rfl rfl zz (fun _ _ _ h => h) (Or.inl ⟨by rfl, ?_⟩) ?_ ?_
    rotate_left
    ·intro w'
     go_simp
     with_reducible rfl
    rotate_left
    ·simp only [Act.put, xA, xB, xC, i64_w, i32_w]
     rfl
    refine pure_ (i := 2) (N := some 19) (v := ?_) (a' := ?_) #[true, true, true, false, false, false, false, false, false, false] rfl rfl zz (fun _ _ _ h => h) (Or.inl ⟨by rfl, ?_⟩) ?_ ?_
    rotate_left
    ·intro w'
     go_simp
     with_reducible rfl
    rotate_left
    ·simp only [Act.put, xA, xB, xC, i64_w, i32_w]
     rfl
    refine pure_ (i := 4) (N := some 21) (v := ?_) (a' := ?_) #[true, true, true, false, true, false, false, false, false, false] rfl rfl zz (fun _ _ _ h => h) (Or.inl ⟨by rfl, ?_⟩) ?_ ?_
    rotate_left
    ·intro w'
     go_simp
     with_reducible rfl
    rotate_left
    ·simp only [Act.put, xA, xB, xC, i64_w, i32_w]
     rfl
    refine pure_ (i := 5) (N := some 22) (v := ?_) (a' := ?_) #[true, true, true, false, true, true, false, false, false, false] rfl rfl zz (fun _ _ _ h => h) (Or.inl ⟨by rfl, ?_⟩) ?_ ?_
    rotate_left
    ·intro w'
     go_simp
     with_reducible rfl
    rotate_left
    ·simp only [Act.put, xA, xB, xC, i64_w, i32_w]
     rfl
    refine pure_ (i := 6) (N := some 23) (v := ?_) (a' := ?_) #[true, true, true, false, true, true, true, false, false, false] rfl rfl zz (fun _ _ _ h => h) (Or.inl ⟨by rfl, ?_⟩) ?_ ?_
    rotate_left
    ·intro w'
     go_simp
     with_reducible rfl
    rotate_left
    ·simp only [Act.put, xA, xB, xC, i64_w, i32_w]
     rfl
    refine take_ (i := 3) (N := some 20) (v := ?_) (a' := ?_) #[true, true, true, true, true, true, true, false, false, false] rfl rfl (take_ofW HT_.out HW_.out (by kernel_rfl)) (fun _ _ _ h => h) (Or.inl ⟨by rfl, ?_⟩) hHeld ?_ ?_
    rotate_left
    ·rintro w' ⟨s0, s1, s2, s3⟩
     go_simp
     with_reducible rfl
    rotate_left
    ·simp only [Act.put, xA, xB, xC, i64_w, i32_w]
     rfl
    refine take_ (i := 7) (N := some 24) (v := ?_) (a' := ?_) #[true, true, true, true, true, true, true, true, false, false] rfl rfl (take_ofW HT_.out HW_.out (by kernel_rfl)) (fun _ _ _ h => h) (Or.inl ⟨by rfl, ?_⟩) hHeld ?_ ?_
    rotate_left
    ·rintro w' ⟨s0, s1, s2, s3⟩
     go_simp
     with_reducible rfl
    rotate_left
    ·simp only [Act.put, xA, xB, xC, i64_w, i32_w]
     rfl
    refine one_ (i := 8) (N := some 25) #[true, true, true, true, true, true, true, true, true, false] rfl rfl (one_of HT_.out (by kernel_rfl)) (by decide) (fun K hK => ?_)
    refine goes_ Try.func92 (by kernel_rfl) rfl #[.agg #[.int .i64 ((rd_T59 l0 x5_1).f0), .int .i64 ((rd_T59 l0 x5_1).f1)], .agg #[.int .i64 ((rd_T59 l1 x5_1).f0), .int .i64 ((rd_T59 l1 x5_1).f1)]] (by rfl) rfl rfl zm ?_
    with_reducible refine (laws_eqCell.calls ((rd_T59 l0 x5_1).f0) ((rd_T59 l0 x5_1).f1) ((rd_T59 l1 x5_1).f0) ((rd_T59 l1 x5_1).f1) false _ A7.out).mono ?_
    rintro e w12 ⟨rfl, hb⟩
    refine ⟨_, rfl, ?_⟩
    have n0_ := aM (below_step zb hb)
    clear HB
    have HB := n0_
    clear n0_
    (try clear hb)
    (try clear hb2)
    (try clear hk)
    (try clear hi)
    refine hK.out _ _ ⟨((HB.out.cell (World.block_lt_of_cell? w _ hw362_0)).trans hw362_0), ((HB.out.cell (World.block_lt_of_cell? w _ hw362_1)).trans hw362_1), ((HB.out.cell (World.block_lt_of_cell? w _ hw363_0)).trans hw363_0), ((HB.out.cell (World.block_lt_of_cell? w _ hw363_1)).trans hw363_1)⟩ (fun hHeld => ?_)
    clear hK K
    refine norm_ (a' := ?_) ?_ ?_
    rotate_left
    ·show Act.put _ (some 25) _ = _
     simp only [Act.put, xA, xB, xC, i64_w, i32_w]
     rfl
    refine pure_ (i := 9) (N := some 26) (v := ?_) (a' := ?_) #[true, true, true, true, true, true, true, true, true, true] rfl rfl zz (fun _ _ _ h => h) (Or.inl ⟨by rfl, ?_⟩) ?_ ?_
    rotate_left
    ·intro w'
     go_simp
     with_reducible rfl
    rotate_left
    ·simp only [Act.put, xA, xB, xC, i64_w, i32_w]
     rfl
    refine done_ (done_of HT_.out (by kernel_rfl)) ?_
    try go_wp2
    go_ret
    exact ⟨zw, zb⟩
   subst c8
   have H1 : (laws_eqCellS.l0 k1 l0 l1 (wrap64 (x5_1 + 1))) = some r := by rw [if_pos rfl] at H; exact H
   clear H
   have H := H1
   clear H1
   have H' := aM H
   clear H
   try go_wp2
   have n0_ := aM (below_drew1 HB.out)
   clear HB
   have HB := n0_
   clear n0_
   have p362 : 0 ≤ (x5_1 : Int) := of_decide_eq_true za
   have q362 : x5_1 < (l0.length : Int) := of_decide_eq_true za
   obtain ⟨ad362, e362, hx362_0, hx362_1⟩ := at_T59 HR0.out x5_1 p362 q362
   have hw362_1 := hx362_1
   have hw362_0 := hx362_0
   cases e362
   replace hx362_0 := (HB.out.cell (World.block_lt_of_cell? w _ hx362_0)).trans hx362_0
   replace hx362_1 := (HB.out.cell (World.block_lt_of_cell? w _ hx362_1)).trans hx362_1
   replace p362 := eq_true p362
   replace q362 := eq_true q362
   have p363 : 0 ≤ (x5_1 : Int) := of_decide_eq_true za
   have q363 : x5_1 < (l1.length : Int) := of_decide_eq_true za
   obtain ⟨ad363, e363, hx363_0, hx363_1⟩ := at_T59 HR1.out x5_1 p363 q363
   have hw363_1 := hx363_1
   have hw363_0 := hx363_0
   cases e363
   replace hx363_0 := (HB.out.cell (World.block_lt_of_cell? w _ hx363_0)).trans hx363_0
   replace hx363_1 := (HB.out.cell (World.block_lt_of_cell? w _ hx363_1)).trans hx363_1
   replace p363 := eq_true p363
   replace q363 := eq_true q363
   refine start_ (n := 10) (S := fun w' => w'.cell? (ad362.add ((x5_1).toNat * 2)) = some (.int .i64 ((rd_T59 l0 x5_1).f0)) ∧ w'.cell? ⟨(ad362.add ((x5_1).toNat * 2)).block, (ad362.add ((x5_1).toNat * 2)).off + 1, none⟩ = some (.int .i64 ((rd_T59 l0 x5_1).f1)) ∧ w'.cell? (ad363.add ((x5_1).toNat * 2)) = some (.int .i64 ((rd_T59 l1 x5_1).f0)) ∧ w'.cell? ⟨(ad363.add ((x5_1).toNat * 2)).block, (ad363.add ((x5_1).toNat * 2)).off + 1, none⟩ = some (.int .i64 ((rd_T59 l1 x5_1).f1))) (ds := []) #[false, false, false, false, false, false, false, false, false, false] (by kernel_rfl) rfl rfl ⟨((HB.out.cell (World.block_lt_of_cell? w _ hw362_0)).trans hw362_0), ((HB.out.cell (World.block_lt_of_cell? w _ hw362_1)).trans hw362_1), ((HB.out.cell (World.block_lt_of_cell? w _ hw363_0)).trans hw363_0), ((HB.out.cell (World.block_lt_of_cell? w _ hw363_1)).trans hw363_1)⟩ (fun hHeld => ?_); refine with_tabW laws_eqCellS.tab6 laws_eqCellS.bits6 (fun HT_ HW_ => ?_)
   generalize wr.drew = w9 at HB hx362_0 hx362_1 hx363_0 hx363_1 hHeld ⊢
   refine pure_ (i := 0) (N := some 17) (v := ?_) (a' := ?_) #[true, false, false, false, false, false, false, false, false, false] rfl rfl zz (fun _ _ _ h => h) (Or.inl ⟨by rfl, ?_⟩) ?_ ?_
   rotate_left
   ·intro w'
    go_simp
    with_reducible rfl
   rotate_left
   ·simp only [Act.put, xA, xB, xC, i64_w, i32_w]
    rfl
   refine pure_ (i := 1) (N := some 18) (v := ?_) (a' := ?_) #[true, true, false, false, false, false, false, false, false, false] rfl rfl zz (fun _ _ _ h => h) (Or.inl ⟨by rfl, ?_⟩) ?_ ?_
   rotate_left
   ·intro w'
    go_simp
    with_reducible rfl
   rotate_left
   ·simp only [Act.put, xA, xB, xC, i64_w, i32_w]
    rfl
   refine pure_ (i := 2) (N := some 19) (v := ?_) (a' := ?_) #[true, true, true, false, false, false, false, false, false, false] rfl rfl zz (fun _ _ _ h => h) (Or.inl ⟨by rfl, ?_⟩) ?_ ?_
   rotate_left
   ·intro w'
    go_simp
    with_reducible rfl
   rotate_left
   ·simp only [Act.put, xA, xB, xC, i64_w, i32_w]
    rfl
   refine pure_ (i := 4) (N := some 21) (v := ?_) (a' := ?_) #[true, true, true, false, true, false, false, false, false, false] rfl rfl zz (fun _ _ _ h => h) (Or.inl ⟨by rfl, ?_⟩) ?_ ?_
   rotate_left
   ·intro w'
    go_simp
    with_reducible rfl
   rotate_left
   ·simp only [Act.put, xA, xB, xC, i64_w, i32_w]
    rfl
   refine pure_ (i := 5) (N := some 22) (v := ?_) (a' := ?_) #[true, true, true, false, true, true, false, false, false, false] rfl rfl zz (fun _ _ _ h => h) (Or.inl ⟨by rfl, ?_⟩) ?_ ?_
   rotate_left
   ·intro w'
    go_simp
    with_reducible rfl
   rotate_left
   ·simp only [Act.put, xA, xB, xC, i64_w, i32_w]
    rfl
   refine pure_ (i := 6) (N := some 23) (v := ?_) (a' := ?_) #[true, true, true, false, true, true, true, false, false, false] rfl rfl zz (fun _ _ _ h => h) (Or.inl ⟨by rfl, ?_⟩) ?_ ?_
   rotate_left
   ·intro w'
    go_simp
    with_reducible rfl
   rotate_left
   ·simp only [Act.put, xA, xB, xC, i64_w, i32_w]
    rfl
   refine take_ (i := 3) (N := some 20) (v := ?_) (a' := ?_) #[true, true, true, true, true, true, true, false, false, false] rfl rfl (take_ofW HT_.out HW_.out (by kernel_rfl)) (fun _ _ _ h => h) (Or.inl ⟨by rfl, ?_⟩) hHeld ?_ ?_
   rotate_left
   ·rintro w' ⟨s0, s1, s2, s3⟩
    go_simp
    with_reducible rfl
   rotate_left
   ·simp only [Act.put, xA, xB, xC, i64_w, i32_w]
    rfl
   refine take_ (i := 7) (N := some 24) (v := ?_) (a' := ?_) #[true, true, true, true, true, true, true, true, false, false] rfl rfl (take_ofW HT_.out HW_.out (by kernel_rfl)) (fun _ _ _ h => h) (Or.inl ⟨by rfl, ?_⟩) hHeld ?_ ?_
   rotate_left
   ·rintro w' ⟨s0, s1, s2, s3⟩
    go_simp
    with_reducible rfl
   rotate_left
   ·simp only [Act.put, xA, xB, xC, i64_w, i32_w]
    rfl
   refine one_ (i := 8) (N := some 25) #[true, true, true, true, true, true, true, true, true, false] rfl rfl (one_of HT_.out (by kernel_rfl)) (by decide) (fun K hK => ?_)
   refine goes_ Try.func92 (by kernel_rfl) rfl #[.agg #[.int .i64 ((rd_T59 l0 x5_1).f0), .int .i64 ((rd_T59 l0 x5_1).f1)], .agg #[.int .i64 ((rd_T59 l1 x5_1).f0), .int .i64 ((rd_T59 l1 x5_1).f1)]] (by rfl) rfl rfl zm ?_
   with_reducible refine (laws_eqCell.calls ((rd_T59 l0 x5_1).f0) ((rd_T59 l0 x5_1).f1) ((rd_T59 l1 x5_1).f0) ((rd_T59 l1 x5_1).f1) true _ A7.out).mono ?_
   rintro e w10 ⟨rfl, hb⟩
   refine ⟨_, rfl, ?_⟩
   have n0_ := aM (below_step zb hb)
   clear HB
   have HB := n0_
   clear n0_
   (try clear hb)
   (try clear hb2)
   (try clear hk)
   (try clear hi)
   refine hK.out _ _ ⟨((HB.out.cell (World.block_lt_of_cell? w _ hw362_0)).trans hw362_0), ((HB.out.cell (World.block_lt_of_cell? w _ hw362_1)).trans hw362_1), ((HB.out.cell (World.block_lt_of_cell? w _ hw363_0)).trans hw363_0), ((HB.out.cell (World.block_lt_of_cell? w _ hw363_1)).trans hw363_1)⟩ (fun hHeld => ?_)
   clear hK K
   refine norm_ (a' := ?_) ?_ ?_
   rotate_left
   ·show Act.put _ (some 25) _ = _
    simp only [Act.put, xA, xB, xC, i64_w, i32_w]
    rfl
   refine pure_ (i := 9) (N := some 26) (v := ?_) (a' := ?_) #[true, true, true, true, true, true, true, true, true, true] rfl rfl zz (fun _ _ _ h => h) (Or.inl ⟨by rfl, ?_⟩) ?_ ?_
   rotate_left
   ·intro w'
    go_simp
    with_reducible rfl
   rotate_left
   ·simp only [Act.put, xA, xB, xC, i64_w, i32_w]
    rfl
   refine done_ (done_of HT_.out (by kernel_rfl)) ?_
   try go_wp2
   go_roundg k1
   case measure => have := HK1.out; omega
   case rel => exact ⟨(wrap64 (x5_1 + 1)), zr, H', ⟨by have := HK1.out; omega⟩, ⟨zb⟩⟩
def laws_markCellS.l0 : Nat → List (S59) → Int → Int → Option (Int × (List (S59)))
 | 0, _, _, _ => none
 | k + 1, x0, x1, x5 => if x5 < (x0.length : Int) then (if 0 ≤ x5 then ((some (x0.set (x5 : Int).toNat (⟨x1, (rd_T59 x0 x5).f1⟩ : S59) : List (S59))).bind fun y411 => (laws_markCellS.l0 k (y411.set (x5 : Int).toNat (⟨(rd_T59 y411 x5).f0, wrap64 (x1 + 1)⟩ : S59)) (wrap64 ((wrap64 (x1 + 1)) + 1)) (wrap64 (x5 + 1)))) else (none)) else (some (x1, x0))
def laws_markCellS.f (k : Nat) (l0 : List (S59)) (a1 : Int) : Option (Int × (List (S59))) := laws_markCellS.l0 k l0 a1 0
theorem laws_markCellS.calls (k : Nat) (P0_ : Nat → Prop) (u9000_ : Value) (l0 : List (S59)) (a1 : Int) (r1 : Int) (r2 : List (S59)) (w0 w : World) (hB : Below w0.heap.size w0 w) (ho0 : Kd.R k59 59 w w0.heap.size P0_ u9000_ l0) (h : laws_markCellS.f k l0 a1 = some (r1, r2)) :
  Calls Try.prog 48 #[u9000_, .int .i64 a1] w fun e w' => e = .returned (.int .i64 r1) ∧ Kd.R k59 59 w' w0.heap.size (fun k_ => (P0_ k_ ∨ w.heap.size ≤ k_)) u9000_ r2 ∧ Below w0.heap.size w0 w' ∧ Kept w w' (fun k_ => P0_ k_) := by
 have HO0 := aM (show Kd.R k59 59 w w0.heap.size (fun k_ => (P0_ k_ ∨ w.heap.size ≤ k_)) u9000_ l0 from Kd.R_mono ho0 (fun k_ hk => (.inl hk)))
 have HK := aM (Kept.refl w (fun k_ => P0_ k_))
 have HW0 := aM hB.size
 have HB := aM hB
 clear hB
 have H : (laws_markCellS.l0 k l0 a1 0) = some (r1, r2) := h
 clear h
 have H' := aM H
 clear H
 go_enter Try.func48, Try.ntmps48
 go_wp2
 go_loopg [1, 5] k (fun kq v1 v5 w' => ∃ (x0_1 : List (S59)) (x1_1 : Int) (x5_1 : Int), v1 = .int .i64 x1_1 ∧ v5 = .int .i64 x5_1 ∧ Aside0 (laws_markCellS.l0 kq x0_1 x1_1 x5_1 = some (r1, r2)) ∧ Aside0 (kq ≤ k) ∧ Aside0 (Kd.R k59 59 w' w0.heap.size (fun k_ => (P0_ k_ ∨ w.heap.size ≤ k_)) u9000_ x0_1) ∧ Aside0 (Kept w w' (fun k_ => P0_ k_)) ∧ Aside0 (Below w0.heap.size w0 w'))
 case atStart => exact ⟨(l0), (a1), (0), zr, zr, H', ⟨Nat.le_refl _⟩, ⟨mR_ HO0.out⟩, ⟨by repeat (first | (with_reducible first | exact HK.out | apply Kept.alloc | apply Kept.drewN | apply Kept.drew) | exact HK.out)⟩, ⟨zb⟩⟩
 case round =>
  clear H'
  try clear p2
  obtain ⟨x0_1, x1_1, x5_1, rfl, rfl, HA, HK1, HO_0, HK, HB⟩ := hrel
  cases gk with
  | zero => exact absurd HA.out (by simp [laws_markCellS.l0])
  | succ k1 =>
   have H := HA.out
   clear HA
   simp only [laws_markCellS.l0] at H
   by_cases c3 : x5_1 < (x0_1.length : Int)
   rotate_left
   ·rw [if_neg c3] at H
    have c3b0 : decide (x5_1 < (x0_1.length : Int)) = false := decide_eq_false c3
    clear c3
    simp only [Option.some.injEq, Prod.mk.injEq] at H
    obtain ⟨rfl, rfl⟩ := H
    obtain ⟨Ao12, co12, eo12⟩ := Kd.R_slice HO_0.out
    subst eo12
    go_wp2
    go_ret
    exact ⟨zw, mR_ HO_0.out, zb, by repeat (first | (with_reducible first | exact HK.out | apply Kept.alloc | apply Kept.drewN | apply Kept.drew) | exact HK.out)⟩
   rw [if_pos c3] at H
   have c3b0 : decide (x5_1 < (x0_1.length : Int)) = true := decide_eq_true c3
   clear c3
   by_cases c4 : 0 ≤ x5_1
   rotate_left
   ·rw [if_neg c4] at H
    exact absurd H (by simp)
   rw [if_pos c4] at H
   have c4b0 : decide (0 ≤ x5_1) = true := decide_eq_true c4
   clear c4
   obtain ⟨y411, hy411⟩ : ∃ y_ : List (S59), y_ = (x0_1.set (x5_1 : Int).toNat (⟨x1_1, (rd_T59 x0_1 x5_1).f1⟩ : S59)) := ⟨_, rfl⟩
   replace H : (laws_markCellS.l0 k1 (y411.set (x5_1 : Int).toNat (⟨(rd_T59 y411 x5_1).f0, wrap64 (x1_1 + 1)⟩ : S59)) (wrap64 ((wrap64 (x1_1 + 1)) + 1)) (wrap64 (x5_1 + 1))) = some (r1, r2) := zy H hy411
   have Ny411 := aM hy411
   clear hy411
   obtain ⟨y412, hy412⟩ : ∃ y_ : List (S59), y_ = (y411.set (x5_1 : Int).toNat (⟨(rd_T59 y411 x5_1).f0, wrap64 (x1_1 + 1)⟩ : S59)) := ⟨_, rfl⟩
   replace H : (laws_markCellS.l0 k1 y412 (wrap64 ((wrap64 (x1_1 + 1)) + 1)) (wrap64 (x5_1 + 1))) = some (r1, r2) := zy H hy412
   have Ny412 := aM hy412
   clear hy412
   have H' := aM H
   clear H
   obtain ⟨Ao7, co7, eo7⟩ := Kd.R_slice HO_0.out
   subst eo7
   have p5 : 0 ≤ (x5_1 : Int) := of_decide_eq_true za
   have q5 : (x5_1 : Int) < ((x0_1.length : Int) : Int) := of_decide_eq_true za
   obtain ⟨go5, co5, eo5, gb5, gl5, cl5, HG5⟩ := Kd.R_form HO_0.out (by omega)
   (first | cases eo5 | (injection eo5 with ea_ en_ ec_; (first | subst ea_ | (injection ea_ with ea_; subst ea_)); subst ec_; clear en_))
   have GB5 := aM gb5
   have GG5 := aM HG5
   clear gb5 gl5 HG5
   have HMgo5 := aM (show (P0_ go5 ∨ w.heap.size ≤ go5) from (HO_0.out.1 _ rfl))
   obtain ⟨ce5, hcl5, hM5, hcc5, hfr5⟩ := Kd.R_elem HO_0.out z59 (x5_1 : Int) p5 q5
   obtain rfl := k59_openM hM5
   have hx5_0 : wr.cell? ⟨go5, (x5_1 : Int).toNat * 2, none⟩ = some (.int .i64 ((rd_T59 x0_1 x5_1).f0)) := hcc5 0 _ rfl
   have hx5_1 : wr.cell? ⟨go5, (x5_1 : Int).toNat * 2 + 1, none⟩ = some (.int .i64 ((rd_T59 x0_1 x5_1).f1)) := hcc5 1 _ rfl
   have hf5_0 : wr.frozen? ⟨go5, (x5_1 : Int).toNat * 2, none⟩ = false := hfr5 0
   have hf5_1 : wr.frozen? ⟨go5, (x5_1 : Int).toNat * 2 + 1, none⟩ = false := hfr5 1
   clear hcl5 hcc5 hfr5 hM5
   replace p5 := eq_true p5
   replace q5 := eq_true q5
   have HX8 := aM (show Kd.R k59 59 wr w0.heap.size (fun k_ => (P0_ k_ ∨ w.heap.size ≤ k_)) (.slice (some ⟨go5, 0, none⟩) x0_1.length co7) x0_1 from (mR_ HO_0.out))
   obtain ⟨ce8, hcl8, hM8, hcc8, hfr8⟩ := Kd.R_elem HX8.out z59 (x5_1 : Int) (of_decide_eq_true za) (by have h_ : (x5_1 : Int) < ((x0_1.length : Int) : Int) := of_decide_eq_true za; first | exact h_ | (have e_ := (Kd.R_reads' HO_0.out).1; omega) | simpa using h_)
   obtain rfl := k59_openM hM8
   have HP8 := Kd.R_seg HX8.out (x5_1 : Int) (of_decide_eq_true za) (by have h_ : (x5_1 : Int) < ((x0_1.length : Int) : Int) := of_decide_eq_true za; first | exact h_ | (have e_ := (Kd.R_reads' HO_0.out).1; omega) | simpa using h_) (seg := [.int .i64 x1_1]) (j := 0) hcl8 hcc8 (show 1 ≤ 2 from by decide) (x' := (⟨x1_1, (rd_T59 x0_1 x5_1).f1⟩ : S59)) (k59_mkM _ _ _ (⟨x1_1, (rd_T59 x0_1 x5_1).f1⟩ : S59) ) (fun _ hk => hk)
   have hx8_0 := hcc8 0 _ rfl
   (try simp only [show (k59).sz = 2 from rfl, Nat.mul_one, Nat.add_zero] at hx8_0)
   have hf8_0 := hfr8 0
   (try simp only [show (k59).sz = 2 from rfl, Nat.mul_one, Nat.add_zero] at hf8_0)
   clear hcl8 hcc8 hfr8 hM8
   go_wp2_with (first | ((with_reducible refine gate_store (t := 2) (p := 16) rfl ?_); refine store_event (t := 2) (p := 16) (v := ?vo_w9) (w1 := (wr.setCell ⟨go5, (x5_1 : Int).toNat * 2, none⟩ (.int .i64 x1_1))) ?hg ?ho ?hn ?hr ?_; (case ho => rfl); (case hg => rfl); (case hn => rfl); (case hr => first | (go_simp; done) | (go_simp; rfl)); intro w9 hw; have hg : wr.grownBy w9 (some go5) := (by rw [hw]; exact HP8.2); have hp_ : Kd.R k59 59 w9 w0.heap.size (fun k_ => (P0_ k_ ∨ w.heap.size ≤ k_)) (.slice (some ⟨go5, 0, none⟩) x0_1.length co7) y411 := (by rw [hw, Ny411.out]; exact HP8.1); clear HP8; have n0_ := aM (hp_); have n1_ := aM ((by rw [hw]; exact below_set (HB.out) GB5.out : Below w0.heap.size w0 w9)); have n2_ := aM (Kept.of_grown (S := (fun k_ => P0_ k_)) hg (by repeat (first | (with_reducible first | exact HK.out | apply Kept.alloc | apply Kept.drewN | apply Kept.drew) | exact HK.out)) (fun k_ e_ => (HO_0.out.1 k_ e_))); clear HO_0; clear HB; clear HK; have HO_0 := n0_; have HB := n1_; have HK := n2_; clear n0_ n1_ n2_; clear hg hw hp_; have p6 : 0 ≤ (x5_1 : Int) := of_decide_eq_true za; have q6 : (x5_1 : Int) < ((x0_1.length : Int) : Int) := of_decide_eq_true za; obtain ⟨ce6, hcl6, hM6, hcc6, hfr6⟩ := Kd.R_elem HO_0.out z59 (x5_1 : Int) p6 q6; obtain rfl := k59_openM hM6; have hx6_0 : w9.cell? ⟨go5, (x5_1 : Int).toNat * 2, none⟩ = some (.int .i64 ((rd_T59 y411 x5_1).f0)) := hcc6 0 _ rfl; have hx6_1 : w9.cell? ⟨go5, (x5_1 : Int).toNat * 2 + 1, none⟩ = some (.int .i64 ((rd_T59 y411 x5_1).f1)) := hcc6 1 _ rfl; have hf6_0 : w9.frozen? ⟨go5, (x5_1 : Int).toNat * 2, none⟩ = false := hfr6 0; have hf6_1 : w9.frozen? ⟨go5, (x5_1 : Int).toNat * 2 + 1, none⟩ = false := hfr6 1; clear hcl6 hcc6 hfr6 hM6; replace p6 := eq_true p6; replace q6 := eq_true q6; have HX10 := aM (show Kd.R k59 59 w9 w0.heap.size (fun k_ => (P0_ k_ ∨ w.heap.size ≤ k_)) (.slice (some ⟨go5, 0, none⟩) x0_1.length co7) y411 from (mR_ HO_0.out)); obtain ⟨ce10, hcl10, hM10, hcc10, hfr10⟩ := Kd.R_elem HX10.out z59 (x5_1 : Int) (of_decide_eq_true za) (by have h_ : (x5_1 : Int) < ((x0_1.length : Int) : Int) := of_decide_eq_true za; first | exact h_ | (have e_ := (Kd.R_reads' HO_0.out).1; omega) | simpa using h_); obtain rfl := k59_openM hM10; have HP10 := Kd.R_seg HX10.out (x5_1 : Int) (of_decide_eq_true za) (by have h_ : (x5_1 : Int) < ((x0_1.length : Int) : Int) := of_decide_eq_true za; first | exact h_ | (have e_ := (Kd.R_reads' HO_0.out).1; omega) | simpa using h_) (seg := [.int .i64 (wrap64 (x1_1 + 1))]) (j := 1) hcl10 hcc10 (show 2 ≤ 2 from by decide) (x' := (⟨(rd_T59 y411 x5_1).f0, wrap64 (x1_1 + 1)⟩ : S59)) (k59_mkM _ _ _ (⟨(rd_T59 y411 x5_1).f0, wrap64 (x1_1 + 1)⟩ : S59) ) (fun _ hk => hk); have hx10_1 := hcc10 1 _ rfl; (try simp only [show (k59).sz = 2 from rfl, Nat.mul_one, Nat.add_zero] at hx10_1); have hf10_1 := hfr10 1; (try simp only [show (k59).sz = 2 from rfl, Nat.mul_one, Nat.add_zero] at hf10_1); clear hcl10 hcc10 hfr10 hM10) | ((with_reducible refine gate_store (t := 2) (p := 23) rfl ?_); refine store_event (t := 2) (p := 23) (v := ?vo_w11) (w1 := (w9.setCell ⟨go5, (x5_1 : Int).toNat * 2 + 1, none⟩ (.int .i64 (wrap64 (x1_1 + 1))))) ?hg ?ho ?hn ?hr ?_; (case ho => rfl); (case hg => rfl); (case hn => rfl); (case hr => first | (go_simp; done) | (go_simp; rfl)); intro w11 hw; have hg : w9.grownBy w11 (some go5) := (by rw [hw]; exact HP10.2); have hp_ : Kd.R k59 59 w11 w0.heap.size (fun k_ => (P0_ k_ ∨ w.heap.size ≤ k_)) (.slice (some ⟨go5, 0, none⟩) x0_1.length co7) y412 := (by rw [hw, Ny412.out]; exact HP10.1); clear HP10; have n0_ := aM (hp_); have n1_ := aM ((by rw [hw]; exact below_set (HB.out) GB5.out : Below w0.heap.size w0 w11)); have n2_ := aM (Kept.of_grown (S := (fun k_ => P0_ k_)) hg (by repeat (first | (with_reducible first | exact HK.out | apply Kept.alloc | apply Kept.drewN | apply Kept.drew) | exact HK.out)) (fun k_ e_ => (HO_0.out.1 k_ e_))); clear HO_0; clear HB; clear HK; have HO_0 := n0_; have HB := n1_; have HK := n2_; clear n0_ n1_ n2_; clear hg hw hp_))
   go_roundg k1
   case measure => have := HK1.out; omega
   case rel => exact ⟨(y412), (wrap64 ((wrap64 (x1_1 + 1)) + 1)), (wrap64 (x5_1 + 1)), zr, zr, H', ⟨by have := HK1.out; omega⟩, ⟨mR_ HO_0.out⟩, ⟨by repeat (first | (with_reducible first | exact HK.out | apply Kept.alloc | apply Kept.drewN | apply Kept.drew) | exact HK.out)⟩, ⟨zb⟩⟩
def laws_markInt64S.l0 : Nat → List Int → Int → Int → Option (Int × List Int)
 | 0, _, _, _ => none
 | k + 1, x0, x1, x5 => if x5 < (x0.length : Int) then (if 0 ≤ x5 then (laws_markInt64S.l0 k (x0.set (x5 : Int).toNat x1) (wrap64 (x1 + 1)) (wrap64 (x5 + 1))) else (none)) else (some (x1, x0))
def laws_markInt64S.f (k : Nat) (l0 : List Int) (a1 : Int) : Option (Int × List Int) := laws_markInt64S.l0 k l0 a1 0
theorem laws_markInt64S.calls (k : Nat) (P0_ : Nat → Prop) (u9000_ : Value) (l0 : List Int) (a1 : Int) (r1 : Int) (r2 : List Int) (w0 w : World) (hB : Below w0.heap.size w0 w) (ho0 : Kd.R (Kd.int .i64) 2 w w0.heap.size P0_ u9000_ l0) (h : laws_markInt64S.f k l0 a1 = some (r1, r2)) :
  Calls Try.prog 49 #[u9000_, .int .i64 a1] w fun e w' => e = .returned (.int .i64 r1) ∧ Kd.R (Kd.int .i64) 2 w' w0.heap.size (fun k_ => (P0_ k_ ∨ w.heap.size ≤ k_)) u9000_ r2 ∧ Below w0.heap.size w0 w' ∧ Kept w w' (fun k_ => P0_ k_) := by
 have HO0 := aM (show Kd.R (Kd.int .i64) 2 w w0.heap.size (fun k_ => (P0_ k_ ∨ w.heap.size ≤ k_)) u9000_ l0 from Kd.R_mono ho0 (fun k_ hk => (.inl hk)))
 have HK := aM (Kept.refl w (fun k_ => P0_ k_))
 have HW0 := aM hB.size
 have HB := aM hB
 clear hB
 have H : (laws_markInt64S.l0 k l0 a1 0) = some (r1, r2) := h
 clear h
 have H' := aM H
 clear H
 go_enter Try.func49, Try.ntmps49
 go_wp2
 go_loopg [1, 5] k (fun kq v1 v5 w' => ∃ (x0_1 : List Int) (x1_1 : Int) (x5_1 : Int), v1 = .int .i64 x1_1 ∧ v5 = .int .i64 x5_1 ∧ Aside0 (laws_markInt64S.l0 kq x0_1 x1_1 x5_1 = some (r1, r2)) ∧ Aside0 (kq ≤ k) ∧ Aside0 (Kd.R (Kd.int .i64) 2 w' w0.heap.size (fun k_ => (P0_ k_ ∨ w.heap.size ≤ k_)) u9000_ x0_1) ∧ Aside0 (Kept w w' (fun k_ => P0_ k_)) ∧ Aside0 (Below w0.heap.size w0 w'))
 case atStart => exact ⟨(l0), (a1), (0), zr, zr, H', ⟨Nat.le_refl _⟩, ⟨mR_ HO0.out⟩, ⟨by repeat (first | (with_reducible first | exact HK.out | apply Kept.alloc | apply Kept.drewN | apply Kept.drew) | exact HK.out)⟩, ⟨zb⟩⟩
 case round =>
  clear H'
  try clear p2
  obtain ⟨x0_1, x1_1, x5_1, rfl, rfl, HA, HK1, HO_0, HK, HB⟩ := hrel
  cases gk with
  | zero => exact absurd HA.out (by simp [laws_markInt64S.l0])
  | succ k1 =>
   have H := HA.out
   clear HA
   simp only [laws_markInt64S.l0] at H
   by_cases c3 : x5_1 < (x0_1.length : Int)
   rotate_left
   ·rw [if_neg c3] at H
    have c3b0 : decide (x5_1 < (x0_1.length : Int)) = false := decide_eq_false c3
    clear c3
    simp only [Option.some.injEq, Prod.mk.injEq] at H
    obtain ⟨rfl, rfl⟩ := H
    obtain ⟨Ao9, co9, eo9⟩ := Kd.R_slice HO_0.out
    subst eo9
    go_wp2
    go_ret
    exact ⟨zw, mR_ HO_0.out, zb, by repeat (first | (with_reducible first | exact HK.out | apply Kept.alloc | apply Kept.drewN | apply Kept.drew) | exact HK.out)⟩
   rw [if_pos c3] at H
   have c3b0 : decide (x5_1 < (x0_1.length : Int)) = true := decide_eq_true c3
   clear c3
   by_cases c4 : 0 ≤ x5_1
   rotate_left
   ·rw [if_neg c4] at H
    exact absurd H (by simp)
   rw [if_pos c4] at H
   have c4b0 : decide (0 ≤ x5_1) = true := decide_eq_true c4
   clear c4
   obtain ⟨y949, hy949⟩ : ∃ y_ : List Int, y_ = (x0_1.set (x5_1 : Int).toNat x1_1) := ⟨_, rfl⟩
   replace H : (laws_markInt64S.l0 k1 y949 (wrap64 (x1_1 + 1)) (wrap64 (x5_1 + 1))) = some (r1, r2) := zy H hy949
   have Ny949 := aM hy949
   clear hy949
   have H' := aM H
   clear H
   obtain ⟨Ao6, co6, eo6⟩ := Kd.R_slice HO_0.out
   subst eo6
   have p5 : 0 ≤ (x5_1 : Int) := of_decide_eq_true za
   have q5 : (x5_1 : Int) < ((x0_1.length : Int) : Int) := of_decide_eq_true za
   obtain ⟨go5, co5, eo5, gb5, gl5, cl5, HG5⟩ := Kd.R_form HO_0.out (by omega)
   (first | cases eo5 | (injection eo5 with ea_ en_ ec_; (first | subst ea_ | (injection ea_ with ea_; subst ea_)); subst ec_; clear en_))
   have GB5 := aM gb5
   have GG5 := aM HG5
   clear gb5 gl5 HG5
   have HMgo5 := aM (show (P0_ go5 ∨ w.heap.size ≤ go5) from (HO_0.out.1 _ rfl))
   obtain ⟨hx5_0, hf5_0⟩ := Kd.R_celln 0 HO_0.out (x5_1 : Int) p5 q5
   replace p5 := eq_true p5
   replace q5 := eq_true q5
   have HP7 := Kd.R_putg HO_0.out (x5_1 : Int) x1_1
   go_wp2_with (first | ((with_reducible refine gate_store (t := 2) (p := 15) rfl ?_); refine store_event (t := 2) (p := 15) (v := ?vo_w8) (w1 := (wr.setCell ⟨go5, (x5_1 : Int).toNat, none⟩ (.int .i64 x1_1))) ?hg ?ho ?hn ?hr ?_; (case ho => rfl); (case hg => rfl); (case hn => rfl); (case hr => first | (go_simp; done) | (go_simp; rfl)); intro w8 hw; have hg : wr.grownBy w8 (some go5) := (by rw [hw]; exact HP7.2); have hp_ : Kd.R (Kd.int .i64) 2 w8 w0.heap.size (fun k_ => (P0_ k_ ∨ w.heap.size ≤ k_)) (.slice (some ⟨go5, 0, none⟩) x0_1.length co6) y949 := (by rw [hw, Ny949.out]; exact HP7.1); clear HP7; have n0_ := aM (hp_); have n1_ := aM ((by rw [hw]; exact below_set (HB.out) GB5.out : Below w0.heap.size w0 w8)); have n2_ := aM (Kept.of_grown (S := (fun k_ => P0_ k_)) hg (by repeat (first | (with_reducible first | exact HK.out | apply Kept.alloc | apply Kept.drewN | apply Kept.drew) | exact HK.out)) (fun k_ e_ => (HO_0.out.1 k_ e_))); clear HO_0; clear HB; clear HK; have HO_0 := n0_; have HB := n1_; have HK := n2_; clear n0_ n1_ n2_; clear hg hw hp_))
   go_roundg k1
   case measure => have := HK1.out; omega
   case rel => exact ⟨(y949), (wrap64 (x1_1 + 1)), (wrap64 (x5_1 + 1)), zr, zr, H', ⟨by have := HK1.out; omega⟩, ⟨mR_ HO_0.out⟩, ⟨by repeat (first | (with_reducible first | exact HK.out | apply Kept.alloc | apply Kept.drewN | apply Kept.drew) | exact HK.out)⟩, ⟨zb⟩⟩
def laws_heldInt64S.l0 : Nat → List Int → Int → Int → Option (Int)
 | 0, _, _, _ => none
 | k + 1, x0, x1, x5 => if x5 < (x0.length : Int) then (if 0 ≤ x5 then (if (rd x0 x5) = x1 then (laws_heldInt64S.l0 k x0 (wrap64 (x1 + 1)) (wrap64 (x5 + 1))) else (some (-1))) else (none)) else (some x1)
def laws_heldInt64S.f (k : Nat) (l0 : List Int) (a1 : Int) : Option (Int) := laws_heldInt64S.l0 k l0 a1 0
theorem laws_heldInt64S.calls (k : Nat) (A0 : Option Addr) (c0 : Nat) (l0 : List Int) (a1 : Int) (r : Int) (w : World) (hr0 : Kd.C (Kd.int .i64) w A0 l0.length l0) (hc0 : l0.length ≤ c0) (h : laws_heldInt64S.f k l0 a1 = some r) :
  Calls Try.prog 50 #[.slice A0 l0.length c0, .int .i64 a1] w fun e w' => e = .returned (.int .i64 r) ∧ Drawn0 w w' := by
 have HR0 := aM hr0
 have HC0 := aM hc0
 clear hr0 hc0
 have H : (laws_heldInt64S.l0 k l0 a1 0) = some r := h
 clear h
 have H' := aM H
 clear H
 go_enter Try.func50, Try.ntmps50
 go_wp2
 go_loopg [1, 5] k (fun kq v1 v5 w' => ∃ (x1_1 : Int) (x5_1 : Int), v1 = .int .i64 x1_1 ∧ v5 = .int .i64 x5_1 ∧ Aside0 (laws_heldInt64S.l0 kq l0 x1_1 x5_1 = some r) ∧ Aside0 (kq ≤ k) ∧ Drawn0 w w')
 case atStart => exact ⟨(a1), (0), zr, zr, H', ⟨Nat.le_refl _⟩, by repeat (first | exact Drawn0.refl _ | apply Drawn0.step)⟩
 case round =>
  clear H'
  try clear p2
  obtain ⟨x1_1, x5_1, rfl, rfl, HA, HK1, ⟨m1, rfl⟩⟩ := hrel
  cases gk with
  | zero => exact absurd HA.out (by simp [laws_heldInt64S.l0])
  | succ k1 =>
   have H := HA.out
   clear HA
   simp only [laws_heldInt64S.l0] at H
   by_cases c3 : x5_1 < (l0.length : Int)
   rotate_left
   ·rw [if_neg c3] at H
    have c3b0 : decide (x5_1 < (l0.length : Int)) = false := decide_eq_false c3
    clear c3
    obtain rfl := Option.some.inj H
    go_wp2
    go_ret
    exact ⟨by first | rfl | (simp; done) | (simp [*]; done), by repeat (first | exact Drawn0.refl _ | apply Drawn0.step)⟩
   rw [if_pos c3] at H
   have c3b0 : decide (x5_1 < (l0.length : Int)) = true := decide_eq_true c3
   clear c3
   by_cases c4 : 0 ≤ x5_1
   rotate_left
   ·rw [if_neg c4] at H
    exact absurd H (by simp)
   rw [if_pos c4] at H
   have c4b0 : decide (0 ≤ x5_1) = true := decide_eq_true c4
   clear c4
   by_cases c5 : (rd l0 x5_1) = x1_1
   rotate_left
   ·rw [if_neg c5] at H
    have c5b0 : ((rd l0 x5_1) == x1_1) = false := beq_eq_false_iff_ne.mpr c5
    have c5b1 : ((rd l0 x5_1) != x1_1) = true := bne_iff_ne.mpr c5
    obtain rfl := Option.some.inj H
    have p950 : 0 ≤ (x5_1 : Int) := of_decide_eq_true za
    have q950 : x5_1 < (l0.length : Int) := of_decide_eq_true za
    obtain ⟨ad950, e950, hx950_0⟩ := Kd.at_int HR0.out x5_1 p950 q950
    cases e950
    replace p950 := eq_true p950
    replace q950 := eq_true q950
    go_wp2
    go_ret
    exact ⟨by first | rfl | (simp; done) | (simp [*]; done), by repeat (first | exact Drawn0.refl _ | apply Drawn0.step)⟩
   rw [if_pos c5] at H
   have c5b0 : ((rd l0 x5_1) == x1_1) = true := beq_iff_eq.mpr c5
   have c5b1 : ((rd l0 x5_1) != x1_1) = false := bne_eq_false_iff_eq.mpr c5
   clear c5
   have H' := aM H
   clear H
   have p950 : 0 ≤ (x5_1 : Int) := of_decide_eq_true za
   have q950 : x5_1 < (l0.length : Int) := of_decide_eq_true za
   obtain ⟨ad950, e950, hx950_0⟩ := Kd.at_int HR0.out x5_1 p950 q950
   cases e950
   replace p950 := eq_true p950
   replace q950 := eq_true q950
   go_wp2
   go_roundg k1
   case measure => have := HK1.out; omega
   case rel => exact ⟨(wrap64 (x1_1 + 1)), (wrap64 (x5_1 + 1)), zr, zr, H', ⟨by have := HK1.out; omega⟩, by repeat (first | exact Drawn0.refl _ | apply Drawn0.step)⟩
def fI (p : Int → Bool) : List Int → Int → Int
  | [], _ => -1
  | a :: r, i => if p a then i else fI p r (i + 1)
theorem fI_drop (p : Int → Bool) (l : List Int) (j : Nat) (hj : j < l.length) : fI p (l.drop j) (j : Int) = if p (rd l (j : Int)) = true then (j : Int) else fI p (l.drop (j + 1)) ((j + 1 : Nat) : Int) := by
  rw [← List.getElem_cons_drop hj, fI]
  have : rd l (j : Int) = l[j] := by simp [rd, List.getD, hj]
  rw [this]
  rfl
set_option maxHeartbeats 4000000 in
theorem idxI_calls (g : Nat) (lb : Array Value) (p : Int → Bool) (eg : ∀ args w, (callFunc g args).run Try.prog w = .ok (.enter g args) w) (A0 : Option Addr) (c0 : Nat) (l0 : List Int) (w : World) (hr0 : Kd.C (Kd.int .i64) w A0 l0.length l0) (hn : l0.length ≤ 1000000000000)
    (hp : ∀ x ∈ l0, ∀ q, Calls Try.prog g (#[.int .i64 x] ++ lb) (w.drewN q) fun e w' => e = .returned (.bool (p x)) ∧ ∃ q', w' = (w.drewN q).drewN q') :
    Calls Try.prog 133 #[.slice A0 l0.length c0, .func (.func g) #[] lb] w fun e w' => e = .returned (.int .i64 (fI p l0 0)) ∧ ∃ q, w' = w.drewN q := by
  have HR := aM hr0
  have HP := aM hp
  have HN := aM hn
  clear hr0 hp hn
  go_enter Try.func133, Try.ntmps133
  go_wp2
  go_loopg [5, 8] l0.length (fun gg _ s8 wr => ∃ kk q : Nat, s8 = .int .i64 kk ∧ wr = w.drewN q ∧ Aside0 (kk ≤ l0.length ∧ l0.length - kk ≤ gg ∧ fI p l0 0 = fI p (l0.drop kk) kk))
  case atStart => exact ⟨0, 0, rfl, rfl, ⟨Nat.zero_le _, by omega, rfl⟩⟩
  case round =>
    obtain ⟨kk, q, rfl, rfl, HK⟩ := hrel
    by_cases hlt : kk < l0.length
    · have hltz : decide ((kk : Int) < (l0.length : Int)) = true := decide_eq_true (by omega)
      have hmem : rd l0 (kk : Int) ∈ l0 := by
        have : rd l0 (kk : Int) = l0[kk] := by simp [rd, List.getD, hlt]
        rw [this]; exact List.getElem_mem _
      have HC := aM (HP.out _ hmem)
      have HD := aM (fI_drop p l0 kk hlt)
      have p9 : 0 ≤ (kk : Int) := by omega
      have q9 : (kk : Int) < (l0.length : Int) := by omega
      obtain ⟨ad9, e9, hx9⟩ := Kd.at_int HR.out (kk : Int) p9 q9
      cases e9
      rw [Int.toNat_natCast] at hx9
      replace p9 := eq_true p9
      replace q9 := eq_true q9
      cases hq : p (rd l0 (kk : Int)) with
      | true =>
        have HQ := aM hq
        have HCC := HC.out
        simp only [hq] at HCC
        have HX := aM HCC
        clear HCC
        clear hq
        go_wp2_with fail
        refine (HX.out _).mono ?_
        rintro e w' ⟨rfl, q', rfl⟩
        go_wp2
        go_ret
        refine ⟨?_, _, rfl⟩
        rw [HK.out.2.2, HD.out, if_pos HQ.out]; rfl
      | false =>
        have HQ := aM hq
        have HCC := HC.out
        simp only [hq] at HCC
        have HX := aM HCC
        clear HCC
        clear hq
        go_wp2_with fail
        refine (HX.out _).mono ?_
        rintro e w' ⟨rfl, q', rfl⟩
        go_wp2
        go_roundg (l0.length - (kk + 1))
        case measure => have := HK.out; omega
        case rel =>
          refine ⟨kk + 1, _, ?_, rfl, ⟨by omega, by omega, ?_⟩⟩
          · have := HN.out
            rw [show wrap64 ((kk : Int) + 1) = ((kk + 1 : Nat) : Int) from by unfold wrap64; omega]
          · rw [HK.out.2.2, HD.out, if_neg (by rw [HQ.out]; simp)]
    · have hltz : decide ((kk : Int) < (l0.length : Int)) = false := decide_eq_false (by omega)
      have e : kk = l0.length := by have := HK.out.1; omega
      go_wp2
      go_ret
      refine ⟨?_, q, rfl⟩
      rw [HK.out.2.2, e, List.drop_length]; rfl
theorem eqA59 (d : Nat) (w : World) (x0 y0 : Int) (x1 y1 : Int) :
    (Op.equalIn (d + 2) 59 (.agg #[.int .i64 x0, .int .i64 x1]) (.agg #[.int .i64 y0, .int .i64 y1])).run Try.prog w = .ok (x0 == y0 && (x1 == y1)) w := by
  refine eqA_of Try.underlying59 (by kernel_rfl) ?_
  refine eqf_cons (by rfl) (by go_simp; rfl) (by go_simp; rfl) (by go_simp) ?_
  exact eqf_last (by rfl) (by go_simp; rfl) (by go_simp; rfl) (by go_simp)
end Go.Proofs.Ytabdmdkoffpppaa.F
end
section
namespace Go.Proofs.Ytabdmdkoffpppaa.F
open Go.RowKit Go.Proofs.YtabdmdkoffpppaaW.PrintWords Go.Proofs.YtabdmdkoffpppaaW.PrintLast Go.Proofs.YtabdmdkoffpppaaW.PrintMore
attribute [local go_sem] max2_int min2_int max_two min_two max_three min_three max_four min_four
set_option linter.unusedVariables false
set_option linter.unusedSimpArgs false
attribute [local go_sem high] eqA59
def spec_l02Index.l0 : Nat → List (S59) → Int → Int → Int → Option (Int)
 | 0, _, _, _, _ => none
 | k + 1, x0, x5, x308000, x308001 => if x5 < (x0.length : Int) then (if 0 ≤ x5 then (if (((rd_T59 x0 x5).f0) == x308000 && (((rd_T59 x0 x5).f1) == x308001)) = true then (some x5) else (spec_l02Index.l0 k x0 (wrap64 (x5 + 1)) x308000 x308001)) else (none)) else (some (-1))
def spec_l02Index.f (k : Nat) (l0 : List (S59)) (a1_0 : Int) (a1_1 : Int) : Option (Int) := spec_l02Index.l0 k l0 0 a1_0 a1_1
theorem spec_l02Index.calls (k : Nat) (A0 : Option Addr) (c0 : Nat) (l0 : List (S59)) (a1_0 : Int) (a1_1 : Int) (r : Int) (w : World) (hr0 : Kd.C k59 w A0 l0.length l0) (hc0 : l0.length ≤ c0) (h : spec_l02Index.f k l0 a1_0 a1_1 = some r) :
  Calls Try.prog 88 #[.slice A0 l0.length c0, .agg #[.int .i64 a1_0, .int .i64 a1_1]] w fun e w' => e = .returned (.int .i64 r) ∧ Below w.heap.size w w' := by
 have hu59 := Try.underlying59
 have HR0 := aM hr0
 have HC0 := aM hc0
 clear hr0 hc0
 have HB := aM (Below.refl w.heap.size w)
 have H : (spec_l02Index.l0 k l0 0 a1_0 a1_1) = some r := h
 clear h
 have H' := aM H
 clear H
 go_enter Try.func88, Try.ntmps88
 go_wp2_with (first | ((with_reducible refine gate_dst (N := 3) rfl ?_); refine box_event ?hg (N := 3) ?hd (cs := #[.int .i64 a1_0, .int .i64 a1_1]) (t := 59) ?hr ?_; (case hd => rfl); (case hg => rfl); (case hr => first | (go_simp; done) | (go_simp; rfl)); intro gb307 hg w3 hbox hb; have n0_ := aM (below_step zb hb); have n1_ := aM (hbox); have n2_ := aM ((ze : w.heap.size ≤ gb307)); have n3_ := aM ((ze : w.heap.size ≤ gb307)); clear HB; have HB := n0_; have BK307 := n1_; have GW307 := n2_; have GE307 := n3_; clear n0_ n1_ n2_ n3_; clear hb hbox hg))
 repeat (go_quiet (first | ((with_reducible refine gate_dst (N := 3) rfl ?_); refine box_event ?hg (N := 3) ?hd (cs := #[.int .i64 a1_0, .int .i64 a1_1]) (t := 59) ?hr ?_; (case hd => rfl); (case hg => rfl); (case hr => first | (go_simp; done) | (go_simp; rfl)); intro gb307 hg w3 hbox hb; have n0_ := aM (below_step zb hb); have n1_ := aM (hbox); have n2_ := aM ((ze : w.heap.size ≤ gb307)); have n3_ := aM ((ze : w.heap.size ≤ gb307)); clear HB; have HB := n0_; have BK307 := n1_; have GW307 := n2_; have GE307 := n3_; clear n0_ n1_ n2_ n3_; clear hb hbox hg)); try go_wp2_with (first | ((with_reducible refine gate_dst (N := 3) rfl ?_); refine box_event ?hg (N := 3) ?hd (cs := #[.int .i64 a1_0, .int .i64 a1_1]) (t := 59) ?hr ?_; (case hd => rfl); (case hg => rfl); (case hr => first | (go_simp; done) | (go_simp; rfl)); intro gb307 hg w3 hbox hb; have n0_ := aM (below_step zb hb); have n1_ := aM (hbox); have n2_ := aM ((ze : w.heap.size ≤ gb307)); have n3_ := aM ((ze : w.heap.size ≤ gb307)); clear HB; have HB := n0_; have BK307 := n1_; have GW307 := n2_; have GE307 := n3_; clear n0_ n1_ n2_ n3_; clear hb hbox hg)))
 go_loopg [5] k (fun kq v5 w' => ∃ (x5_1 : Int), v5 = .int .i64 x5_1 ∧ Aside0 (spec_l02Index.l0 kq l0 x5_1 a1_0 a1_1 = some r) ∧ Aside0 (kq ≤ k) ∧ Aside0 (w'.heap[gb307]? = some (.cells #[.int .i64 a1_0, .int .i64 a1_1] 59 (0, 0))) ∧ Aside0 (Below w.heap.size w w'))
 case atStart => exact ⟨(0), zr, H', ⟨Nat.le_refl _⟩, ⟨mB_ BK307.out⟩, ⟨zs GE307.out⟩⟩
 case round =>
  clear H'
  try clear p2
  obtain ⟨x5_1, rfl, HA, HK1, BK307, HB⟩ := hrel
  cases gk with
  | zero => exact absurd HA.out (by simp [spec_l02Index.l0])
  | succ k1 =>
   have H := HA.out
   clear HA
   simp only [spec_l02Index.l0] at H
   by_cases c4 : x5_1 < (l0.length : Int)
   rotate_left
   ·rw [if_neg c4] at H
    have c4b0 : decide (x5_1 < (l0.length : Int)) = false := decide_eq_false c4
    clear c4
    obtain rfl := Option.some.inj H
    go_wp2
    repeat (go_quiet (fail); try go_wp2)
    go_ret
    exact ⟨zw, zs GE307.out⟩
   rw [if_pos c4] at H
   have c4b0 : decide (x5_1 < (l0.length : Int)) = true := decide_eq_true c4
   clear c4
   by_cases c5 : 0 ≤ x5_1
   rotate_left
   ·rw [if_neg c5] at H
    exact absurd H (by simp)
   rw [if_pos c5] at H
   have c5b0 : decide (0 ≤ x5_1) = true := decide_eq_true c5
   clear c5
   by_cases c6 : (((rd_T59 l0 x5_1).f0) == a1_0 && (((rd_T59 l0 x5_1).f1) == a1_1)) = true
   ·rw [if_pos c6] at H
    have c6b0 : (((rd_T59 l0 x5_1).f0) == a1_0 && (((rd_T59 l0 x5_1).f1) == a1_1)) = true := c6
    (try (have c6b1 : decide (((rd_T59 l0 x5_1).f0) = a1_0 && (((rd_T59 l0 x5_1).f1) == a1_1)) = true := by simpa using c6))
    (try (have c6b2 : (((rd_T59 l0 x5_1).f0) == a1_0 && (((rd_T59 l0 x5_1).f1) == a1_1)) = true := by simpa using c6))
    clear c6
    obtain rfl := Option.some.inj H
    have p308 : 0 ≤ (x5_1 : Int) := of_decide_eq_true za
    have q308 : x5_1 < (l0.length : Int) := of_decide_eq_true za
    obtain ⟨ad308, e308, hx308_0, hx308_1⟩ := at_T59 HR0.out x5_1 p308 q308
    cases e308
    replace hx308_0 := (HB.out.cell (World.block_lt_of_cell? w _ hx308_0)).trans hx308_0
    replace hx308_1 := (HB.out.cell (World.block_lt_of_cell? w _ hx308_1)).trans hx308_1
    replace p308 := eq_true p308
    replace q308 := eq_true q308
    have hcz7_0 : wr.cell? ⟨gb307, 0, none⟩ = some (.int .i64 a1_0) := (blk_cell BK307.out 0).trans rfl
    have hcz7_1 : wr.cell? ⟨gb307, 1, none⟩ = some (.int .i64 a1_1) := (blk_cell BK307.out 1).trans rfl
    have hfz7_0 := blk_frozen BK307.out 0
    have hfz7_1 := blk_frozen BK307.out 1
    go_wp2
    repeat (go_quiet (fail); try go_wp2)
    go_ret
    exact ⟨zw, zs GE307.out⟩
   rw [if_neg c6] at H
   have c6b0 : (((rd_T59 l0 x5_1).f0) == a1_0 && (((rd_T59 l0 x5_1).f1) == a1_1)) = false := by simpa using c6
   (try (have c6b1 : decide (((rd_T59 l0 x5_1).f0) = a1_0 && (((rd_T59 l0 x5_1).f1) == a1_1)) = false := by simpa using c6))
   (try (have c6b2 : (((rd_T59 l0 x5_1).f0) == a1_0 && (((rd_T59 l0 x5_1).f1) == a1_1)) = false := by simpa using c6))
   (try (have c6b3 : ¬ (((rd_T59 l0 x5_1).f0) = a1_0 && (((rd_T59 l0 x5_1).f1) == a1_1)) := by simpa using c6))
   clear c6
   have H' := aM H
   clear H
   have p308 : 0 ≤ (x5_1 : Int) := of_decide_eq_true za
   have q308 : x5_1 < (l0.length : Int) := of_decide_eq_true za
   obtain ⟨ad308, e308, hx308_0, hx308_1⟩ := at_T59 HR0.out x5_1 p308 q308
   cases e308
   replace hx308_0 := (HB.out.cell (World.block_lt_of_cell? w _ hx308_0)).trans hx308_0
   replace hx308_1 := (HB.out.cell (World.block_lt_of_cell? w _ hx308_1)).trans hx308_1
   replace p308 := eq_true p308
   replace q308 := eq_true q308
   have hcz8_0 : wr.cell? ⟨gb307, 0, none⟩ = some (.int .i64 a1_0) := (blk_cell BK307.out 0).trans rfl
   have hcz8_1 : wr.cell? ⟨gb307, 1, none⟩ = some (.int .i64 a1_1) := (blk_cell BK307.out 1).trans rfl
   have hfz8_0 := blk_frozen BK307.out 0
   have hfz8_1 := blk_frozen BK307.out 1
   go_wp2
   repeat (go_quiet (fail); try go_wp2)
   go_roundg k1
   case measure => have := HK1.out; omega
   case rel => exact ⟨(wrap64 (x5_1 + 1)), zr, H', ⟨by have := HK1.out; omega⟩, ⟨mB_ BK307.out⟩, ⟨zs GE307.out⟩⟩
end Go.Proofs.Ytabdmdkoffpppaa.F
end
section
namespace Go.Proofs.Ytabdmdkoffpppaa.F
open Go.RowKit Go.Proofs.YtabdmdkoffpppaaW.PrintWords Go.Proofs.YtabdmdkoffpppaaW.PrintLast Go.Proofs.YtabdmdkoffpppaaW.PrintMore
attribute [local go_sem] max2_int min2_int max_two min_two max_three min_three max_four min_four
set_option linter.unusedVariables false
set_option linter.unusedSimpArgs false
def spec_l02Least.l0 : Nat → List (S59) → Int → Int → Int → Option (Int × Int)
 | 0, _, _, _, _ => none
 | k + 1, x0, x4, x5, x6 => if x6 < (x0.length : Int) then (if 0 ≤ x6 then (spec_l02Least.l0 k x0 (mn x4 ((rd_T59 x0 x6).f0)) (mn x5 ((rd_T59 x0 x6).f1)) (wrap64 (x6 + 1))) else (none)) else (some (x4, x5))
def spec_l02Least.f (k : Nat) (l0 : List (S59)) : Option (Int × Int) := if 0 < (l0.length : Int) then (spec_l02Least.l0 k l0 ((rd_T59 l0 0).f0) ((rd_T59 l0 0).f1) 1) else (none)
theorem spec_l02Least.calls (k : Nat) (A0 : Option Addr) (c0 : Nat) (l0 : List (S59)) (r1 : Int) (r2 : Int) (w : World) (hr0 : Kd.C k59 w A0 l0.length l0) (hc0 : l0.length ≤ c0) (h : spec_l02Least.f k l0 = some (r1, r2)) :
  Calls Try.prog 126 #[.slice A0 l0.length c0] w fun e w' => e = .returned (.tuple #[.int .i64 r1, .int .i64 r2]) ∧ Below w.heap.size w w' := by
 have HR0 := aM hr0
 have HC0 := aM hc0
 clear hr0 hc0
 have HB := aM (Below.refl w.heap.size w)
 have H : (if 0 < (l0.length : Int) then (spec_l02Least.l0 k l0 ((rd_T59 l0 0).f0) ((rd_T59 l0 0).f1) 1) else (none)) = some (r1, r2) := h
 clear h
 by_cases c2 : 0 < (l0.length : Int)
 rotate_left
 ·rw [if_neg c2] at H
  exact absurd H (by simp)
 rw [if_pos c2] at H
 have c2b0 : decide (0 < (l0.length : Int)) = true := decide_eq_true c2
 have c2b1 : decide (0 < l0.length) = true := decide_eq_true (by omega)
 clear c2
 have H' := aM H
 clear H
 have p586 : 0 ≤ (0 : Int) := (by omega)
 have q586 : 0 < (l0.length : Int) := of_decide_eq_true za
 obtain ⟨ad586, e586, hx586_0, hx586_1⟩ := at_T59 HR0.out 0 p586 q586
 cases e586
 have qi586 : (0 < l0.length) = True := eq_true (by omega)
 (try rw [show ((0 : Int)).toNat = 0 from rfl] at hx586_0)
 (try rw [show 0 * 2 = 0 from rfl] at hx586_0)
 (try rw [Addr.add_zero'] at hx586_0)
 (try rw [show ((0 : Int)).toNat = 0 from rfl] at hx586_1)
 (try rw [show 0 * 2 = 0 from rfl] at hx586_1)
 (try rw [Addr.add_zero'] at hx586_1)
 replace p586 := eq_true p586
 replace q586 := eq_true q586
 have p587 : 0 ≤ (0 : Int) := (by omega)
 have q587 : 0 < (l0.length : Int) := of_decide_eq_true za
 obtain ⟨ad587, e587, hx587_0, hx587_1⟩ := at_T59 HR0.out 0 p587 q587
 obtain rfl : ad586 = ad587 := (by injection e587)
 have qi587 : (0 < l0.length) = True := eq_true (by omega)
 (try rw [show ((0 : Int)).toNat = 0 from rfl] at hx587_0)
 (try rw [show 0 * 2 = 0 from rfl] at hx587_0)
 (try rw [Addr.add_zero'] at hx587_0)
 (try rw [show ((0 : Int)).toNat = 0 from rfl] at hx587_1)
 (try rw [show 0 * 2 = 0 from rfl] at hx587_1)
 (try rw [Addr.add_zero'] at hx587_1)
 replace p587 := eq_true p587
 replace q587 := eq_true q587
 go_enter Try.func126, Try.ntmps126
 go_wp2
 repeat (go_quiet (fail); try go_wp2)
 go_loopg [4, 5, 6] k (fun kq v4 v5 v6 w' => ∃ (x4_1 : Int) (x5_1 : Int) (x6_1 : Int), v4 = .int .i64 x4_1 ∧ v5 = .int .i64 x5_1 ∧ v6 = .int .i64 x6_1 ∧ Aside0 (spec_l02Least.l0 kq l0 x4_1 x5_1 x6_1 = some (r1, r2)) ∧ Aside0 (kq ≤ k) ∧ Aside0 (Below w.heap.size w w'))
 case atStart => exact ⟨((rd_T59 l0 0).f0), ((rd_T59 l0 0).f1), (1), zr, zr, zr, H', ⟨Nat.le_refl _⟩, ⟨zb⟩⟩
 case round =>
  clear H'
  try clear c1
  try clear c2
  try clear c2b0
  try clear c2b1
  try clear p2
  try clear hx586_0
  try clear hx586_1
  try clear hx587_0
  try clear hx587_1
  try clear p586
  try clear p587
  try clear q586
  try clear q587
  obtain ⟨x4_1, x5_1, x6_1, rfl, rfl, rfl, HA, HK1, HB⟩ := hrel
  cases gk with
  | zero => exact absurd HA.out (by simp [spec_l02Least.l0])
  | succ k1 =>
   have H := HA.out
   clear HA
   simp only [spec_l02Least.l0] at H
   by_cases c3 : x6_1 < (l0.length : Int)
   rotate_left
   ·rw [if_neg c3] at H
    have c3b0 : decide (x6_1 < (l0.length : Int)) = false := decide_eq_false c3
    clear c3
    simp only [Option.some.injEq, Prod.mk.injEq] at H
    obtain ⟨rfl, rfl⟩ := H
    go_wp2
    repeat (go_quiet (fail); try go_wp2)
    go_ret2
    exact ⟨zw, zb⟩
   rw [if_pos c3] at H
   have c3b0 : decide (x6_1 < (l0.length : Int)) = true := decide_eq_true c3
   clear c3
   by_cases c4 : 0 ≤ x6_1
   rotate_left
   ·rw [if_neg c4] at H
    exact absurd H (by simp)
   rw [if_pos c4] at H
   have c4b0 : decide (0 ≤ x6_1) = true := decide_eq_true c4
   clear c4
   obtain ⟨ji5, hji5⟩ : ∃ j_ : Int, (mn x4_1 ((rd_T59 l0 x6_1).f0)) = j_ := ⟨_, rfl⟩
   replace H : (spec_l02Least.l0 k1 l0 ji5 (mn x5_1 ((rd_T59 l0 x6_1).f1)) (wrap64 (x6_1 + 1))) = some (r1, r2) := by first | (rw [hji5] at H; exact H) | (simp only [hji5] at H ⊢; exact H)
   have hji5_ : (if ((rd_T59 l0 x6_1).f0) < x4_1 then ((rd_T59 l0 x6_1).f0) else x4_1) = ji5 := hji5
   obtain ⟨ji6, hji6⟩ : ∃ j_ : Int, (mn x5_1 ((rd_T59 l0 x6_1).f1)) = j_ := ⟨_, rfl⟩
   replace H : (spec_l02Least.l0 k1 l0 ji5 ji6 (wrap64 (x6_1 + 1))) = some (r1, r2) := by first | (rw [hji6] at H; exact H) | (simp only [hji6] at H ⊢; exact H)
   have hji6_ : (if ((rd_T59 l0 x6_1).f1) < x5_1 then ((rd_T59 l0 x6_1).f1) else x5_1) = ji6 := hji6
   have H' := aM H
   clear H
   have p588 : 0 ≤ (x6_1 : Int) := of_decide_eq_true za
   have q588 : x6_1 < (l0.length : Int) := of_decide_eq_true za
   obtain ⟨ad588, e588, hx588_0, hx588_1⟩ := at_T59 HR0.out x6_1 p588 q588
   obtain rfl : ad586 = ad588 := (by injection e588)
   replace hx588_0 := (HB.out.cell (World.block_lt_of_cell? w _ hx588_0)).trans hx588_0
   replace hx588_1 := (HB.out.cell (World.block_lt_of_cell? w _ hx588_1)).trans hx588_1
   replace p588 := eq_true p588
   replace q588 := eq_true q588
   have p589 : 0 ≤ (x6_1 : Int) := of_decide_eq_true za
   have q589 : x6_1 < (l0.length : Int) := of_decide_eq_true za
   obtain ⟨ad589, e589, hx589_0, hx589_1⟩ := at_T59 HR0.out x6_1 p589 q589
   obtain rfl : ad586 = ad589 := (by injection e589)
   replace hx589_0 := (HB.out.cell (World.block_lt_of_cell? w _ hx589_0)).trans hx589_0
   replace hx589_1 := (HB.out.cell (World.block_lt_of_cell? w _ hx589_1)).trans hx589_1
   replace p589 := eq_true p589
   replace q589 := eq_true q589
   go_wp2
   repeat (go_quiet (fail); try go_wp2)
   go_roundg k1
   case measure => have := HK1.out; omega
   case rel => exact ⟨(ji5), (ji6), (wrap64 (x6_1 + 1)), (by first | rfl | (simp; done) | (simp only [← hji5] <;> (first | rfl | simp)) | (simp [*]; done)), (by first | rfl | (simp; done) | (simp only [← hji6] <;> (first | rfl | simp)) | (simp [*]; done)), zr, H', ⟨by have := HK1.out; omega⟩, ⟨zb⟩⟩
def spec_l02Around.f (a0_0 : Int) (a0_1 : Int) : Option ((List (S59))) := some (([(⟨a0_0, wrap64 (a0_1 - 1)⟩ : S59), (⟨wrap64 (a0_0 - 1), a0_1⟩ : S59), (⟨wrap64 (a0_0 + 1), a0_1⟩ : S59), (⟨a0_0, wrap64 (a0_1 + 1)⟩ : S59)] : List (S59)))
theorem spec_l02Around.calls (a0_0 : Int) (a0_1 : Int) (r : List (S59)) (w : World) (h : spec_l02Around.f a0_0 a0_1 = some r) :
  Calls Try.prog 145 #[.agg #[.int .i64 a0_0, .int .i64 a0_1]] w fun e w' => ∃ v0_ : Value, e = .returned (v0_) ∧ Kd.R k59 59 w' w.heap.size (fun _ => True) v0_ r ∧ Below w.heap.size w w' := by
 have hu59 := Try.underlying59
 have HB := aM (Below.refl w.heap.size w)
 have H : (some (([(⟨a0_0, wrap64 (a0_1 - 1)⟩ : S59), (⟨wrap64 (a0_0 - 1), a0_1⟩ : S59), (⟨wrap64 (a0_0 + 1), a0_1⟩ : S59), (⟨a0_0, wrap64 (a0_1 + 1)⟩ : S59)] : List (S59)))) = some r := h
 clear h
 obtain ⟨y604, hy604⟩ : ∃ y_ : List (S59), y_ = (([(⟨a0_0, wrap64 (a0_1 - 1)⟩ : S59), (⟨wrap64 (a0_0 - 1), a0_1⟩ : S59), (⟨wrap64 (a0_0 + 1), a0_1⟩ : S59), (⟨a0_0, wrap64 (a0_1 + 1)⟩ : S59)] : List (S59))) := ⟨_, rfl⟩
 replace H : (some y604) = some r := zy H hy604
 have Ny604 := aM hy604
 clear hy604
 obtain rfl := Option.some.inj H
 go_enter Try.func145, Try.ntmps145
 go_wp2_with (first | ((with_reducible refine gate_dst (N := 1) rfl ?_); refine box_event ?hg (N := 1) ?hd (cs := #[.int .i64 a0_0, .int .i64 a0_1]) (t := 59) ?hr ?_; (case hd => rfl); (case hg => rfl); (case hr => first | (go_simp; done) | (go_simp; rfl)); intro gb603 hg w2 hbox hb; have n0_ := aM (below_step zb hb); have n1_ := aM (hbox); have n2_ := aM ((ze : w.heap.size ≤ gb603)); have n3_ := aM ((ze : w.heap.size ≤ gb603)); clear HB; have HB := n0_; have BK603 := n1_; have GW603 := n2_; have GE603 := n3_; clear n0_ n1_ n2_ n3_; clear hb hbox hg; have hcz3_0 : w2.cell? ⟨gb603, 0, none⟩ = some (.int .i64 a0_0) := (blk_cell BK603.out 0).trans rfl; have hcz3_1 : w2.cell? ⟨gb603, 1, none⟩ = some (.int .i64 a0_1) := (blk_cell BK603.out 1).trans rfl; have hfz3_0 := blk_frozen BK603.out 0; have hfz3_1 := blk_frozen BK603.out 1) | ((with_reducible refine gate_dst (N := 27) rfl ?_); refine Kd.R_lit k59 _ 59 ?hg (N := 27) ?hd (xs := ([(⟨a0_0, wrap64 (a0_1 - 1)⟩ : S59), (⟨wrap64 (a0_0 - 1), a0_1⟩ : S59), (⟨wrap64 (a0_0 + 1), a0_1⟩ : S59), (⟨a0_0, wrap64 (a0_1 + 1)⟩ : S59)] : List (S59))) (inner := [.int .i64 a0_0, .int .i64 (wrap64 (a0_1 - 1)), .int .i64 (wrap64 (a0_0 - 1)), .int .i64 a0_1, .int .i64 (wrap64 (a0_0 + 1)), .int .i64 a0_1, .int .i64 a0_0, .int .i64 (wrap64 (a0_1 + 1))]) (ok := fun _ => True) (okp := fun _ => True) ?hr ?hp (fun _ hk => hk) trivial (Below.refl _ _) (Nat.le_refl _) (by simp) ?_; (case hd => rfl); (case hg => rfl); (case hr => first | (go_simp; done) | (go_simp; rfl)); (case hp => exact (Reps.c2 (show Kd.M k59 _ _ _ (⟨a0_0, wrap64 (a0_1 - 1)⟩ : S59) [.int .i64 a0_0, .int .i64 (wrap64 (a0_1 - 1))] from (k59_mkM _ _ _ (⟨a0_0, wrap64 (a0_1 - 1)⟩ : S59) )) (Reps.c2 (show Kd.M k59 _ _ _ (⟨wrap64 (a0_0 - 1), a0_1⟩ : S59) [.int .i64 (wrap64 (a0_0 - 1)), .int .i64 a0_1] from (k59_mkM _ _ _ (⟨wrap64 (a0_0 - 1), a0_1⟩ : S59) )) (Reps.c2 (show Kd.M k59 _ _ _ (⟨wrap64 (a0_0 + 1), a0_1⟩ : S59) [.int .i64 (wrap64 (a0_0 + 1)), .int .i64 a0_1] from (k59_mkM _ _ _ (⟨wrap64 (a0_0 + 1), a0_1⟩ : S59) )) (Reps.c2 (show Kd.M k59 _ _ _ (⟨a0_0, wrap64 (a0_1 + 1)⟩ : S59) [.int .i64 a0_0, .int .i64 (wrap64 (a0_1 + 1))] from (k59_mkM _ _ _ (⟨a0_0, wrap64 (a0_1 + 1)⟩ : S59) )) (Reps.none _ _)))))); intro v605 w4 ho5 hb hg_ hnew_; clear hg_ hnew_; (first | rw [← Ny604.out] at ho5 | (simp only [Int.reduceToNat] at ho5; rw [← Ny604.out] at ho5)); have n0_ := aM (Kd.R_lower (Kd.R_newB ho5 (g := gb603) (o := .cells #[.int .i64 a0_0, .int .i64 a0_1] 59 (0, 0)) (mB_ BK603.out)) (below_size (zs GE603.out))); have n1_ := aM (blk_below (g := gb603) (o := .cells #[.int .i64 a0_0, .int .i64 a0_1] 59 (0, 0)) (mB_ BK603.out) hb); have n2_ := aM (below_step (zs GE603.out) hb); clear BK603; clear HB; have HO606 := n0_; have BK603 := n1_; have HB := n2_; clear n0_ n1_ n2_; clear hb ho5))
 go_ret
 exact ⟨_, zw, by (with_reducible repeat (first | apply Kd.R_alloc | apply Kd.R_drewN | apply Kd.R_drew)); exact Kd.R_mono HO606.out (fun _ hk => trivial), zs GE603.out⟩
end Go.Proofs.Ytabdmdkoffpppaa.F
end
section
namespace Go.Proofs.Ytabdmdkoffpppaa.F
open Go.RowKit Go.Proofs.YtabdmdkoffpppaaW.PrintWords Go.Proofs.YtabdmdkoffpppaaW.PrintLast Go.Proofs.YtabdmdkoffpppaaW.PrintMore
attribute [local go_sem] max2_int min2_int max_two min_two max_three min_three max_four min_four
set_option linter.unusedVariables false
set_option linter.unusedSimpArgs false
mutual
def spec_l02Parts.l0 : Nat → List (S59) → List Int → Int → Option (List Int)
 | 0, _, _, _ => none
 | k + 1, x0, x3, x4 => if x4 < (x0.length : Int) then (if x3.length < 17592186044416 then (spec_l02Parts.l0 k x0 (x3 ++ [(-1)]) (wrap64 (x4 + 1))) else (none)) else (spec_l02Parts.l1 k x0 x3 0)
def spec_l02Parts.l1 : Nat → List (S59) → List Int → Int → Option (List Int)
 | 0, _, _, _ => none
 | k + 1, x0, x3, x5 => if x5 < (x0.length : Int) then (if 0 ≤ x5 then (if x5 < (x3.length : Int) then (if (rd x3 x5) ≥ 0 then (spec_l02Parts.l1 k x0 x3 (wrap64 (x5 + 1))) else (spec_l02Parts.l2 k x0 (x3.set (x5 : Int).toNat x5) x5 (([x5] : List Int)))) else (none)) else (none)) else (some x3)
def spec_l02Parts.l2 : Nat → List (S59) → List Int → Int → List Int → Option (List Int)
 | 0, _, _, _, _ => none
 | k + 1, x0, x3, x5, x6 => if (x6.length : Int) > 0 then (if 0 < (x6.length : Int) then (if 0 ≤ (rd x6 0) then (if (rd x6 0) < (x0.length : Int) then ((spec_l02Around.f ((rd_T59 x0 (rd x6 0)).f0) ((rd_T59 x0 (rd x6 0)).f1)).bind fun t824 => (if 1 ≤ (x6.length : Int) then (spec_l02Parts.l3 k x0 x3 x5 (x6.drop (1 : Int).toNat) t824 0) else (none))) else (none)) else (none)) else (none)) else (spec_l02Parts.l1 k x0 x3 (wrap64 (x5 + 1)))
def spec_l02Parts.l3 : Nat → List (S59) → List Int → Int → List Int → List (S59) → Int → Option (List Int)
 | 0, _, _, _, _, _, _ => none
 | k + 1, x0, x3, x5, x6, x7, x8 => if x8 < 4 then (if 0 ≤ x8 then (if x8 < (x7.length : Int) then ((spec_l02Index.f k x0 ((rd_T59 x7 x8).f0) ((rd_T59 x7 x8).f1)).bind fun t831 => (if t831 ≥ 0 then (if 0 ≤ t831 then (if t831 < (x3.length : Int) then (if (rd x3 t831) < 0 then (if x6.length < 17592186044416 then (spec_l02Parts.l3 k x0 (x3.set (t831 : Int).toNat x5) x5 (x6 ++ [t831]) x7 (wrap64 (x8 + 1))) else (none)) else (spec_l02Parts.l3 k x0 x3 x5 x6 x7 (wrap64 (x8 + 1)))) else (none)) else (none)) else (spec_l02Parts.l3 k x0 x3 x5 x6 x7 (wrap64 (x8 + 1))))) else (none)) else (none)) else (spec_l02Parts.l2 k x0 x3 x5 x6)
end
def spec_l02Parts.f (k : Nat) (l0 : List (S59)) : Option (List Int) := spec_l02Parts.l0 k l0 (([] : List Int)) 0
theorem spec_l02Parts.calls (k : Nat) (A0 : Option Addr) (c0 : Nat) (l0 : List (S59)) (r : List Int) (w : World) (hr0 : Kd.C k59 w A0 l0.length l0) (hc0 : l0.length ≤ c0) (h : spec_l02Parts.f k l0 = some r) :
  Calls Try.prog 147 #[.slice A0 l0.length c0] w fun e w' => ∃ v0_ : Value, e = .returned (v0_) ∧ Kd.R (Kd.int .i64) 2 w' w.heap.size (fun _ => True) v0_ r ∧ Below w.heap.size w w' := by
 have hu59 := Try.underlying59
 have HR0 := aM hr0
 have HC0 := aM hc0
 clear hr0 hc0
 have HB := aM (Below.refl w.heap.size w)
 have H : (spec_l02Parts.l0 k l0 (([] : List Int)) 0) = some r := h
 clear h
 obtain ⟨y811, hy811⟩ : ∃ y_ : List Int, y_ = (([] : List Int)) := ⟨_, rfl⟩
 replace H : (spec_l02Parts.l0 k l0 y811 0) = some r := zy H hy811
 have Ny811 := aM hy811
 clear hy811
 have H' := aM H
 clear H
 go_enter Try.func147, Try.ntmps147
 go_wp2_with (first | ((with_reducible refine gate_dst (N := 10) rfl ?_); refine Kd.R_lit (Kd.int .i64) _ 2 ?hg (N := 10) ?hd (xs := ([] : List Int)) (inner := []) (ok := fun _ => True) (okp := fun _ => True) ?hr ?hp (fun _ hk => hk) trivial (Below.refl _ _) (Nat.le_refl _) (by simp) ?_; (case hd => rfl); (case hg => rfl); (case hr => first | (go_simp; done) | (go_simp; rfl)); (case hp => exact (Reps.none _ _)); intro v812 w2 ho3 hb hg_ hnew_; clear hg_ hnew_; (first | rw [← Ny811.out] at ho3 | (simp only [Int.reduceToNat] at ho3; rw [← Ny811.out] at ho3)); have n0_ := aM (Kd.R_lower ho3 (below_size zb)); have n1_ := aM (below_step zb hb); clear HB; have HO813 := n0_; have HB := n1_; clear n0_ n1_; clear hb ho3))
 go_loopg [3, 4] k (fun kq v3 v4 w' => ∃ (x3_1 : List Int) (x4_1 : Int), v4 = .int .i64 x4_1 ∧ Aside0 (spec_l02Parts.l0 kq l0 x3_1 x4_1 = some r) ∧ Aside0 (kq ≤ k) ∧ Aside0 (Kd.R (Kd.int .i64) 2 w' w.heap.size (fun _ => True) v3 x3_1) ∧ Aside0 (Below w.heap.size w w'))
 case atStart => exact ⟨(y811), (0), zr, H', ⟨Nat.le_refl _⟩, ⟨mR_ HO813.out⟩, ⟨zb⟩⟩
 case round =>
  clear H'
  try clear c1
  try clear p2
  obtain ⟨x3_1, x4_1, rfl, HA, HK1, HO_3, HB⟩ := hrel
  cases gk with
  | zero => exact absurd HA.out (by simp [spec_l02Parts.l0])
  | succ k1 =>
   have H := HA.out
   clear HA
   simp only [spec_l02Parts.l0] at H
   by_cases c4 : x4_1 < (l0.length : Int)
   ·rw [if_pos c4] at H
    have c4b0 : decide (x4_1 < (l0.length : Int)) = true := decide_eq_true c4
    clear c4
    by_cases c5 : x3_1.length < 17592186044416
    rotate_left
    ·rw [if_neg c5] at H
     exact absurd H (by simp)
    rw [if_pos c5] at H
    have LMc5 := aM c5
    clear c5
    obtain ⟨y814, hy814⟩ : ∃ y_ : List Int, y_ = (x3_1 ++ [(-1)]) := ⟨_, rfl⟩
    replace H : (spec_l02Parts.l0 k1 l0 y814 (wrap64 (x4_1 + 1))) = some r := zy H hy814
    have Ny814 := aM hy814
    clear hy814
    have H' := aM H
    clear H
    go_wp2_with (first | ((with_reducible refine gate_builtin (b := .append) (xs := #[.tmp 17, .tmp 18]) rfl ?_); at_builtin; refine Kd.R_append (Kd.int .i64) (w0 := w) w.heap.size rfl (.tmp 17) (.tmp 18) 22 2 (.int .i64 0) 8 rfl Try.underlying22 info2 rfl (by decide) (by omega) u3 x3_1 (-1) [.int .i64 (-1)] (fun _ => True) (fun _ => False) rfl rfl ?aP (fun _ hk => hk.elim) ?aF ?aO ?aB ?aS ?aL ?_; (case aP => exact rfl); (case aB => exact zb); (case aF => exact (fun _ _ => trivial)); (case aO => exact (mR_ HO_3.out)); (case aS => exact (below_size zb)); (case aL => have := LMc5.out; omega); intro v815 w6 ho hb hg hat; rw [← Ny814.out] at ho; have n0_ := aM (hb); have n1_ := aM (ho); clear HB; clear HO_3; have HB := n0_; have HO816 := n1_; clear n0_ n1_; clear ho hb hg hat))
    go_roundg k1
    case measure => have := HK1.out; omega
    case rel => exact ⟨(y814), (wrap64 (x4_1 + 1)), zr, H', ⟨by have := HK1.out; omega⟩, ⟨mR_ HO816.out⟩, ⟨zb⟩⟩
   rw [if_neg c4] at H
   have c4b0 : decide (x4_1 < (l0.length : Int)) = false := decide_eq_false c4
   clear c4
   have H' := aM H
   clear H
   go_wp2
   go_loopg [5] k1 (fun kq v5 w' => ∃ (x3_2 : List Int) (x5_2 : Int), v5 = .int .i64 x5_2 ∧ Aside0 (spec_l02Parts.l1 kq l0 x3_2 x5_2 = some r) ∧ Aside0 (kq ≤ k1) ∧ Aside0 (Kd.R (Kd.int .i64) 2 w' w.heap.size (fun _ => True) u3 x3_2) ∧ Aside0 (Below w.heap.size w w'))
   case atStart => exact ⟨(x3_1), (0), zr, H', ⟨Nat.le_refl _⟩, ⟨mR_ HO_3.out⟩, ⟨zb⟩⟩
   case round =>
    clear H'
    try clear c1
    try clear p2
    try clear c4
    try clear c4b0
    try clear c5
    try clear p6
    try clear p2
    obtain ⟨x3_2, x5_2, rfl, HA, HK2, HO_3, HB⟩ := hrel
    cases gk with
    | zero => exact absurd HA.out (by simp [spec_l02Parts.l1])
    | succ k2 =>
     have H := HA.out
     clear HA
     simp only [spec_l02Parts.l1] at H
     by_cases c7 : x5_2 < (l0.length : Int)
     rotate_left
     ·rw [if_neg c7] at H
      have c7b0 : decide (x5_2 < (l0.length : Int)) = false := decide_eq_false c7
      clear c7
      obtain rfl := Option.some.inj H
      go_wp2
      go_ret
      exact ⟨_, zw, mR_ HO_3.out, zb⟩
     rw [if_pos c7] at H
     have c7b0 : decide (x5_2 < (l0.length : Int)) = true := decide_eq_true c7
     clear c7
     by_cases c8 : 0 ≤ x5_2
     rotate_left
     ·rw [if_neg c8] at H
      exact absurd H (by simp)
     rw [if_pos c8] at H
     have c8b0 : decide (0 ≤ x5_2) = true := decide_eq_true c8
     clear c8
     by_cases c9 : x5_2 < (x3_2.length : Int)
     rotate_left
     ·rw [if_neg c9] at H
      exact absurd H (by simp)
     rw [if_pos c9] at H
     have c9b0 : decide (x5_2 < (x3_2.length : Int)) = true := decide_eq_true c9
     clear c9
     by_cases c10 : (rd x3_2 x5_2) ≥ 0
     ·rw [if_pos c10] at H
      have c10b0 : decide (0 ≤ (rd x3_2 x5_2)) = true := decide_eq_true c10
      clear c10
      have H' := aM H
      clear H
      obtain ⟨Ao11, co11, eo11⟩ := Kd.R_slice HO_3.out
      subst eo11
      have p817 : 0 ≤ (x5_2 : Int) := of_decide_eq_true za
      have q817 : x5_2 < (x3_2.length : Int) := of_decide_eq_true za
      obtain ⟨ad817, e817, hx817_0⟩ := Kd.at_int (Kd.R_reads' HO_3.out).2.2 x5_2 p817 q817
      cases e817
      replace p817 := eq_true p817
      replace q817 := eq_true q817
      go_wp2
      go_roundg k2
      case measure => have := HK1.out; have := HK2.out; omega
      case rel => exact ⟨(x3_2), (wrap64 (x5_2 + 1)), zr, H', ⟨by have := HK1.out; have := HK2.out; omega⟩, ⟨mR_ HO_3.out⟩, ⟨zb⟩⟩
     rw [if_neg c10] at H
     have c10b0 : decide (0 ≤ (rd x3_2 x5_2)) = false := decide_eq_false c10
     clear c10
     obtain ⟨y818, hy818⟩ : ∃ y_ : List Int, y_ = (x3_2.set (x5_2 : Int).toNat x5_2) := ⟨_, rfl⟩
     replace H : (spec_l02Parts.l2 k2 l0 y818 x5_2 (([x5_2] : List Int))) = some r := zy H hy818
     have Ny818 := aM hy818
     clear hy818
     obtain ⟨y819, hy819⟩ : ∃ y_ : List Int, y_ = (([x5_2] : List Int)) := ⟨_, rfl⟩
     replace H : (spec_l02Parts.l2 k2 l0 y818 x5_2 y819) = some r := zy H hy819
     have Ny819 := aM hy819
     clear hy819
     have H' := aM H
     clear H
     obtain ⟨Ao13, co13, eo13⟩ := Kd.R_slice HO_3.out
     subst eo13
     have p817 : 0 ≤ (x5_2 : Int) := of_decide_eq_true za
     have q817 : x5_2 < (x3_2.length : Int) := of_decide_eq_true za
     obtain ⟨ad817, e817, hx817_0⟩ := Kd.at_int (Kd.R_reads' HO_3.out).2.2 x5_2 p817 q817
     cases e817
     replace p817 := eq_true p817
     replace q817 := eq_true q817
     have p12 : 0 ≤ (x5_2 : Int) := of_decide_eq_true za
     have q12 : (x5_2 : Int) < ((x3_2.length : Int) : Int) := of_decide_eq_true za
     obtain ⟨go12, co12, eo12, gb12, gl12, cl12, HG12⟩ := Kd.R_form HO_3.out (by omega)
     (first | cases eo12 | (injection eo12 with ea_ en_ ec_; (first | subst ea_ | (injection ea_ with ea_; subst ea_)); subst ec_; clear en_))
     have GB12 := aM gb12
     have GG12 := aM HG12
     clear gb12 gl12 HG12
     (first | simp only [add_plain] at hx817_0 | skip)
     obtain ⟨hx12_0, hf12_0⟩ := Kd.R_celln 0 HO_3.out (x5_2 : Int) p12 q12
     replace p12 := eq_true p12
     replace q12 := eq_true q12
     have HP14 := Kd.R_putg HO_3.out (x5_2 : Int) x5_2
     go_wp2_with (first | ((with_reducible refine gate_store (t := 2) (p := 34) rfl ?_); refine store_event (t := 2) (p := 34) (v := ?vo_w15) (w1 := (wr.setCell ⟨go12, (x5_2 : Int).toNat, none⟩ (.int .i64 x5_2))) ?hg ?ho ?hn ?hr ?_; (case ho => rfl); (case hg => rfl); (case hn => rfl); (case hr => first | (go_simp; done) | (go_simp; rfl)); intro w15 hw; have hg : wr.grownBy w15 (some go12) := (by rw [hw]; exact HP14.2); have hp_ : Kd.R (Kd.int .i64) 2 w15 w.heap.size (fun _ => True) (.slice (some ⟨go12, 0, none⟩) x3_2.length co13) y818 := (by rw [hw, Ny818.out]; exact HP14.1); clear HP14; have n0_ := aM (hp_); have n1_ := aM ((by rw [hw]; exact below_set (HB.out) GB12.out : Below w.heap.size w w15)); clear HO_3; clear HB; have HO_3 := n0_; have HB := n1_; clear n0_ n1_; clear hg hw hp_) | ((with_reducible refine gate_dst (N := 36) rfl ?_); refine Kd.R_lit (Kd.int .i64) _ 2 ?hg (N := 36) ?hd (xs := ([x5_2] : List Int)) (inner := [.int .i64 x5_2]) (ok := fun _ => True) (okp := fun _ => True) ?hr ?hp (fun _ hk => hk) trivial (Below.refl _ _) (Nat.le_refl _) (by simp) ?_; (case hd => rfl); (case hg => rfl); (case hr => first | (go_simp; done) | (go_simp; rfl)); (case hp => exact (Reps.one (show Kd.M (Kd.int .i64) _ _ _ x5_2 [.int .i64 x5_2] from rfl) (Reps.none _ _))); intro v820 w16 ho17 hb hg_ hnew_; clear hg_ hnew_; (first | rw [← Ny819.out] at ho17 | (simp only [Int.reduceToNat] at ho17; rw [← Ny819.out] at ho17)); have n0_ := aM (Kd.R_elder' (mR_ HO_3.out) (Kd.R_base ho17) hb); have n1_ := aM (Kd.R_lower (Kd.R_new' ho17 (Kd.R_lt (mR_ HO_3.out))) (below_size zb)); have n2_ := aM (below_step zb hb); clear HO_3; clear HB; have HO_3 := n0_; have HO821 := n1_; have HB := n2_; clear n0_ n1_ n2_; clear hb ho17))
     go_loopg [6] k2 (fun kq v6 w' => ∃ (x3_3 : List Int) (x6_3 : List Int), Aside0 (spec_l02Parts.l2 kq l0 x3_3 x5_2 x6_3 = some r) ∧ Aside0 (kq ≤ k2) ∧ Aside0 (Kd.R (Kd.int .i64) 2 w' w.heap.size (fun k_ => some k_ ≠ (v6 : Value).ownBlock) (.slice (some ⟨go12, 0, none⟩) x3_2.length co13) x3_3) ∧ Aside0 (Kd.Q (Kd.int .i64) 2 w' w.heap.size (fun k_ => some k_ ≠ ((.slice (some ⟨go12, 0, none⟩) x3_2.length co13) : Value).ownBlock) v6 x6_3) ∧ Aside0 (Below w.heap.size w w'))
     case atStart => exact ⟨(y818), (y819), H', ⟨Nat.le_refl _⟩, ⟨by (with_reducible repeat (first | apply Kd.R_alloc | apply Kd.R_drewN | apply Kd.R_drew)); exact Kd.R_mono HO_3.out (fun _ hk => hk.2)⟩, ⟨Kd.Q_of_R (by (with_reducible repeat (first | apply Kd.R_alloc | apply Kd.R_drewN | apply Kd.R_drew)); exact Kd.R_mono HO821.out (fun _ hk => hk.2))⟩, ⟨zb⟩⟩
     case round =>
      clear H'
      try clear c1
      try clear p1
      try clear q1
      try clear hx1
      try clear hf1
      try clear p2
      try clear c4
      try clear c4b0
      try clear c5
      try clear p6
      try clear c7
      try clear c7b0
      try clear c8
      try clear c8b0
      try clear p8
      try clear q8
      try clear hx8
      try clear c9
      try clear c9b0
      try clear c10
      try clear c10b0
      try clear p12
      try clear q12
      try clear hx12
      try clear hf12
      try clear c14
      try clear hx12_0
      try clear hx817_0
      try clear p12
      try clear p2
      try clear p6
      try clear p817
      try clear q12
      try clear q817
      obtain ⟨x3_3, x6_3, HA, HK3, HO_3, HO_6, HB⟩ := hrel
      have hl3_3 := (Kd.R_reads' HO_3.out).1
      rw [hl3_3] at HO_3
      (try simp only [hl3_3])
      (try simp only [hl3_3] at HO_6)
      cases gk with
      | zero => exact absurd HA.out (by simp [spec_l02Parts.l2])
      | succ k3 =>
       have H := HA.out
       clear HA
       simp only [spec_l02Parts.l2] at H
       by_cases c18 : (x6_3.length : Int) > 0
       rotate_left
       ·rw [if_neg c18] at H
        have c18b0 : decide (0 < (x6_3.length : Int)) = false := decide_eq_false c18
        have c18b1 : decide (0 < x6_3.length) = false := decide_eq_false (by omega)
        clear c18
        have H' := aM H
        clear H
        obtain ⟨Ao46, co46, eo46, _⟩ := Kd.Q_slice HO_6.out
        subst eo46
        go_wp2
        (try simp only [← hl3_3])
        go_roundg k3
        case measure => have := HK1.out; have := HK2.out; have := HK3.out; omega
        case rel => exact ⟨(x3_3), (wrap64 (x5_2 + 1)), zr, H', ⟨by have := HK1.out; have := HK2.out; have := HK3.out; omega⟩, ⟨by (try simp only [hl3_3]); (with_reducible repeat (first | apply Kd.R_alloc | apply Kd.R_drewN | apply Kd.R_drew)); exact Kd.R_mono HO_3.out (fun _ hk => trivial)⟩, ⟨zb⟩⟩
       rw [if_pos c18] at H
       have c18b0 : decide (0 < (x6_3.length : Int)) = true := decide_eq_true c18
       have c18b1 : decide (0 < x6_3.length) = true := decide_eq_true (by omega)
       clear c18
       by_cases c19 : 0 < (x6_3.length : Int)
       rotate_left
       ·rw [if_neg c19] at H
        exact absurd H (by simp)
       rw [if_pos c19] at H
       have c19b0 : decide (0 < (x6_3.length : Int)) = true := decide_eq_true c19
       have c19b1 : decide (0 < x6_3.length) = true := decide_eq_true (by omega)
       clear c19
       by_cases c20 : 0 ≤ (rd x6_3 0)
       rotate_left
       ·rw [if_neg c20] at H
        exact absurd H (by simp)
       rw [if_pos c20] at H
       have c20b0 : decide (0 ≤ (rd x6_3 0)) = true := decide_eq_true c20
       clear c20
       by_cases c21 : (rd x6_3 0) < (l0.length : Int)
       rotate_left
       ·rw [if_neg c21] at H
        exact absurd H (by simp)
       rw [if_pos c21] at H
       have c21b0 : decide ((rd x6_3 0) < (l0.length : Int)) = true := decide_eq_true c21
       clear c21
       replace H := Option.bind_eq_some_iff.mp H
       obtain ⟨t824, A220, H⟩ := H
       replace H : (if 1 ≤ (x6_3.length : Int) then (spec_l02Parts.l3 k3 l0 x3_3 x5_2 (x6_3.drop (1 : Int).toNat) t824 0) else (none)) = some r := H
       have A22 := aM A220
       clear A220
       by_cases c23 : 1 ≤ (x6_3.length : Int)
       rotate_left
       ·rw [if_neg c23] at H
        exact absurd H (by simp)
       rw [if_pos c23] at H
       have c23b0 := eq_true c23
       have c23b1 : decide (1 ≤ (x6_3.length : Int)) = true := decide_eq_true c23
       clear c23
       obtain ⟨y827, hy827⟩ : ∃ y_ : List Int, y_ = (x6_3.drop (1 : Int).toNat) := ⟨_, rfl⟩
       replace H : (spec_l02Parts.l3 k3 l0 x3_3 x5_2 y827 t824 0) = some r := zy H hy827
       have Ny827 := aM hy827
       clear hy827
       have H' := aM H
       clear H
       obtain ⟨Ao24, co24, eo24, _⟩ := Kd.Q_slice HO_6.out
       subst eo24
       have p822 : 0 ≤ (0 : Int) := (by omega)
       have q822 : 0 < (x6_3.length : Int) := of_decide_eq_true za
       obtain ⟨ad822, e822, hx822_0⟩ := Kd.at_int (Kd.Q_reads' HO_6.out).2.2 0 p822 q822
       cases e822
       have qi822 : (0 < x6_3.length) = True := eq_true (by omega)
       (try rw [show ((0 : Int)).toNat = 0 from rfl] at hx822_0)
       (try rw [Addr.add_zero'] at hx822_0)
       replace p822 := eq_true p822
       replace q822 := eq_true q822
       have p823 : 0 ≤ ((rd x6_3 0) : Int) := of_decide_eq_true za
       have q823 : (rd x6_3 0) < (l0.length : Int) := of_decide_eq_true za
       obtain ⟨ad823, e823, hx823_0, hx823_1⟩ := at_T59 HR0.out (rd x6_3 0) p823 q823
       cases e823
       replace hx823_0 := (HB.out.cell (World.block_lt_of_cell? w _ hx823_0)).trans hx823_0
       replace hx823_1 := (HB.out.cell (World.block_lt_of_cell? w _ hx823_1)).trans hx823_1
       replace p823 := eq_true p823
       replace q823 := eq_true q823
       go_wp2_with (first | ((with_reducible refine gate_callee (f := 145) rfl ?_); refine goesL_ (some 46) rfl rfl Try.func145 (by kernel_rfl) rfl #[.agg #[.int .i64 ((rd_T59 l0 (rd x6_3 0)).f0), .int .i64 ((rd_T59 l0 (rd x6_3 0)).f1)]] rfl zm ?_; (with_reducible refine (spec_l02Around.calls ((rd_T59 l0 (rd x6_3 0)).f0) ((rd_T59 l0 (rd x6_3 0)).f1) t824 _ A22.out).mono ?_); rintro e w25 ⟨v825, rfl, ho0, hb⟩; refine ⟨_, rfl, ?_⟩; have n0_ := aM (Kd.R_below (mR_ HO_3.out) hb); have n1_ := aM (Kd.Q_below (by (with_reducible repeat (first | apply Kd.Q_alloc | apply Kd.Q_drewN | apply Kd.Q_drew)); exact HO_6.out) hb); have n2_ := aM (Kd.R_lower ho0 (below_size zb)); have n3_ := aM (below_step zb hb); clear HO_3; clear HO_6; clear HB; have HO_3 := n0_; have HO_6 := n1_; have HO826 := n2_; have HB := n3_; clear n0_ n1_ n2_ n3_; (try clear hb); (try clear hb2); (try clear hk); (try clear hi); (try clear ho0); have q26 : (1 : Int) ≤ ((x6_3.length : Int) : Int) := of_decide_eq_true za; obtain ⟨i026, hi026, _, hsz26, _⟩ := info_parts info2; have hcut26 := cut_from (P := Try.prog) 22 2 .i64 Try.underlying22 hi026 1 hsz26 (some ad822) x6_3.length co24 1 (by omega) q26; have hr26 := Kd.Q_drop (k := (1 : Int).toNat) HO_6.out (by omega); obtain ⟨A26, hA26⟩ : ∃ A1, A1 = (if co24 = (1 : Int).toNat then (some ad822) else ((some ad822) : Option Addr).map (·.add ((1 : Int).toNat * 1))) := ⟨_, rfl⟩; obtain ⟨c26, hc26⟩ : ∃ c1, c1 = co24 - (1 : Int).toNat := ⟨_, rfl⟩; have hy26 : y827.length = x6_3.length - (1 : Int).toNat := (by rw [Ny827.out, List.length_drop]); rw [← Ny827.out] at hr26; rw [← hy26, ← hA26, ← hc26] at hcut26; replace hr26 : Kd.Q (Kd.int .i64) 2 w25 w.heap.size (fun k_ => some k_ ≠ (.slice (some ⟨go12, 0, none⟩) x3_3.length co13 : Value).ownBlock) (.slice A26 y827.length c26) y827 := (by rw [hA26, hc26, hy26]; exact hr26); have HE26 : Aside0 ((Value.slice A26 y827.length c26).ownBlock = (.slice (some ad822) x6_3.length co24 : Value).ownBlock) := ⟨by rw [hA26]; split <;> (cases ((some ad822) : Option Addr) <;> rfl)⟩; clear hy26 hi026 hsz26 HO_6 hA26 hc26; have HO829 := aM hr26; clear hr26; replace q26 := eq_true q26; have n_ := aM (Kd.R_mono (ok' := fun k_ => some k_ ≠ (.slice A26 y827.length c26 : Value).ownBlock) HO_3.out (fun k_ hk => (by rw [HE26.out]; exact hk))); clear HO_3; have HO_3 := n_; clear n_))
       go_loopg [6, 8] k3 (fun kq v6 v8 w' => ∃ (x3_4 : List Int) (x6_4 : List Int) (x8_4 : Int), v8 = .int .i64 x8_4 ∧ Aside0 (spec_l02Parts.l3 kq l0 x3_4 x5_2 x6_4 t824 x8_4 = some r) ∧ Aside0 (kq ≤ k3) ∧ Aside0 (Kd.R (Kd.int .i64) 2 w' w.heap.size (fun k_ => some k_ ≠ (v6 : Value).ownBlock) (.slice (some ⟨go12, 0, none⟩) x3_3.length co13) x3_4) ∧ Aside0 (Kd.Q (Kd.int .i64) 2 w' w.heap.size (fun k_ => some k_ ≠ ((.slice (some ⟨go12, 0, none⟩) x3_3.length co13) : Value).ownBlock) v6 x6_4) ∧ Aside0 (Kd.R k59 59 w' w.heap.size (fun _ => True) v825 t824) ∧ Aside0 (Below w.heap.size w w'))
       case atStart => exact ⟨(x3_3), (y827), (0), zr, H', ⟨Nat.le_refl _⟩, ⟨by (try simp only [hl3_3]); (with_reducible repeat (first | apply Kd.R_alloc | apply Kd.R_drewN | apply Kd.R_drew)); exact HO_3.out⟩, ⟨by (try simp only [hl3_3]); (with_reducible repeat (first | apply Kd.Q_alloc | apply Kd.Q_drewN | apply Kd.Q_drew)); exact HO829.out⟩, ⟨by (try simp only [hl3_3]); (with_reducible repeat (first | apply Kd.R_alloc | apply Kd.R_drewN | apply Kd.R_drew)); exact HO826.out⟩, ⟨zb⟩⟩
       case round =>
        clear H'
        try clear c1
        try clear p1
        try clear q1
        try clear hx1
        try clear hf1
        try clear c2
        try clear p2
        try clear q2
        try clear c4
        try clear c4b0
        try clear c5
        try clear p6
        try clear c7
        try clear c7b0
        try clear c8
        try clear c8b0
        try clear p8
        try clear q8
        try clear hx8
        try clear qi8
        try clear c9
        try clear c9b0
        try clear c10
        try clear c10b0
        try clear p12
        try clear q12
        try clear hx12
        try clear hf12
        try clear c14
        try clear c18
        try clear c18b0
        try clear c18b1
        try clear c19
        try clear c19b0
        try clear c19b1
        try clear c20
        try clear c20b0
        try clear c21
        try clear c21b0
        try clear c23
        try clear c23b0
        try clear c23b1
        try clear c26
        try clear q26
        try clear hx12_0
        try clear hx817_0
        try clear hx822_0
        try clear hx823_0
        try clear hx823_1
        try clear p1
        try clear p12
        try clear p2
        try clear p6
        try clear p8
        try clear p817
        try clear p822
        try clear p823
        try clear q1
        try clear q12
        try clear q26
        try clear q8
        try clear q817
        try clear q822
        try clear q823
        obtain ⟨x3_4, x6_4, x8_4, rfl, HA, HK4, HO_3, HO_6, HO_7, HB⟩ := hrel
        have hl3_4 := (Kd.R_reads' HO_3.out).1
        rw [hl3_4] at HO_3
        (try simp only [hl3_4])
        (try simp only [hl3_4] at HO_6)
        (try simp only [hl3_4] at HO_7)
        cases gk with
        | zero => exact absurd HA.out (by simp [spec_l02Parts.l3])
        | succ k4 =>
         have H := HA.out
         clear HA
         simp only [spec_l02Parts.l3] at H
         by_cases c27 : x8_4 < 4
         rotate_left
         ·rw [if_neg c27] at H
          have c27b0 : decide (x8_4 < 4) = false := decide_eq_false c27
          clear c27
          have H' := aM H
          clear H
          go_wp2
          (try simp only [← hl3_3, ← hl3_4])
          go_roundg k4
          case measure => have := HK1.out; have := HK2.out; have := HK3.out; have := HK4.out; omega
          case rel => exact ⟨(x3_4), (x6_4), H', ⟨by have := HK1.out; have := HK2.out; have := HK3.out; have := HK4.out; omega⟩, ⟨by (try simp only [hl3_3]); (try simp only [hl3_4]); (with_reducible repeat (first | apply Kd.R_alloc | apply Kd.R_drewN | apply Kd.R_drew)); exact HO_3.out⟩, ⟨by (try simp only [hl3_3]); (try simp only [hl3_4]); (with_reducible repeat (first | apply Kd.Q_alloc | apply Kd.Q_drewN | apply Kd.Q_drew)); exact HO_6.out⟩, ⟨zb⟩⟩
         rw [if_pos c27] at H
         have c27b0 : decide (x8_4 < 4) = true := decide_eq_true c27
         clear c27
         by_cases c28 : 0 ≤ x8_4
         rotate_left
         ·rw [if_neg c28] at H
          exact absurd H (by simp)
         rw [if_pos c28] at H
         have c28b0 : decide (0 ≤ x8_4) = true := decide_eq_true c28
         clear c28
         by_cases c29 : x8_4 < (t824.length : Int)
         rotate_left
         ·rw [if_neg c29] at H
          exact absurd H (by simp)
         rw [if_pos c29] at H
         have c29b0 : decide (x8_4 < (t824.length : Int)) = true := decide_eq_true c29
         clear c29
         replace H := Option.bind_eq_some_iff.mp H
         obtain ⟨t831, A300, H⟩ := H
         replace H : (if t831 ≥ 0 then (if 0 ≤ t831 then (if t831 < (x3_4.length : Int) then (if (rd x3_4 t831) < 0 then (if x6_4.length < 17592186044416 then (spec_l02Parts.l3 k4 l0 (x3_4.set (t831 : Int).toNat x5_2) x5_2 (x6_4 ++ [t831]) t824 (wrap64 (x8_4 + 1))) else (none)) else (spec_l02Parts.l3 k4 l0 x3_4 x5_2 x6_4 t824 (wrap64 (x8_4 + 1)))) else (none)) else (none)) else (spec_l02Parts.l3 k4 l0 x3_4 x5_2 x6_4 t824 (wrap64 (x8_4 + 1)))) = some r := H
         have A30 := aM A300
         clear A300
         by_cases c31 : t831 ≥ 0
         rotate_left
         ·rw [if_neg c31] at H
          have c31b0 : decide (0 ≤ t831) = false := decide_eq_false c31
          clear c31
          have H' := aM H
          clear H
          obtain ⟨Ao44, co44, eo44⟩ := Kd.R_slice HO_7.out
          subst eo44
          have p830 : 0 ≤ (x8_4 : Int) := of_decide_eq_true za
          have q830 : x8_4 < (t824.length : Int) := of_decide_eq_true za
          obtain ⟨ad830, e830, hx830_0, hx830_1⟩ := at_T59 (Kd.R_reads' HO_7.out).2.2 x8_4 p830 q830
          cases e830
          replace p830 := eq_true p830
          replace q830 := eq_true q830
          go_wp2_with (first | ((with_reducible refine gate_callee (f := 88) rfl ?_); refine goesL_ (some 58) rfl rfl Try.func88 (by kernel_rfl) rfl #[.slice (some ad823) l0.length c0, .agg #[.int .i64 ((rd_T59 t824 x8_4).f0), .int .i64 ((rd_T59 t824 x8_4).f1)]] rfl zm ?_; (with_reducible refine (spec_l02Index.calls k4 _ _ l0 ((rd_T59 t824 x8_4).f0) ((rd_T59 t824 x8_4).f1) t831 _ ?side1 ?side2 A30.out).mono ?_); (case side1 => repeat (first | exact (Kd.C_below HR0.out HB.out) | (with_reducible refine Kd.C_alloc ?_ _) | (with_reducible refine Kd.C_drewN ?_ _) | (with_reducible refine Kd.C_drew ?_))); (case side2 => exact HC0.out); rintro e w45 ⟨rfl, hb⟩; refine ⟨_, rfl, ?_⟩; have n0_ := aM (Kd.R_below (mR_ HO_3.out) hb); have n1_ := aM (Kd.Q_below (by (with_reducible repeat (first | apply Kd.Q_alloc | apply Kd.Q_drewN | apply Kd.Q_drew)); exact HO_6.out) hb); have n2_ := aM (Kd.R_below (mR_ HO_7.out) hb); have n3_ := aM (below_step zb hb); clear HO_3; clear HO_6; clear HO_7; clear HB; have HO_3 := n0_; have HO_6 := n1_; have HO_7 := n2_; have HB := n3_; clear n0_ n1_ n2_ n3_; (try clear hb); (try clear hb2); (try clear hk); (try clear hi)))
          (try simp only [← hl3_4])
          go_roundg k4
          case measure => have := HK1.out; have := HK2.out; have := HK3.out; have := HK4.out; omega
          case rel => exact ⟨(x3_4), (x6_4), (wrap64 (x8_4 + 1)), zr, H', ⟨by have := HK1.out; have := HK2.out; have := HK3.out; have := HK4.out; omega⟩, ⟨by (try simp only [hl3_3]); (try simp only [hl3_4]); (with_reducible repeat (first | apply Kd.R_alloc | apply Kd.R_drewN | apply Kd.R_drew)); exact HO_3.out⟩, ⟨by (try simp only [hl3_3]); (try simp only [hl3_4]); (with_reducible repeat (first | apply Kd.Q_alloc | apply Kd.Q_drewN | apply Kd.Q_drew)); exact HO_6.out⟩, ⟨by (try simp only [hl3_3]); (try simp only [hl3_4]); (with_reducible repeat (first | apply Kd.R_alloc | apply Kd.R_drewN | apply Kd.R_drew)); exact HO_7.out⟩, ⟨zb⟩⟩
         rw [if_pos c31] at H
         have c31b0 : decide (0 ≤ t831) = true := decide_eq_true c31
         clear c31
         by_cases c32 : 0 ≤ t831
         rotate_left
         ·rw [if_neg c32] at H
          exact absurd H (by simp)
         rw [if_pos c32] at H
         have c32b0 : decide (0 ≤ t831) = true := decide_eq_true c32
         clear c32
         by_cases c33 : t831 < (x3_4.length : Int)
         rotate_left
         ·rw [if_neg c33] at H
          exact absurd H (by simp)
         rw [if_pos c33] at H
         have c33b0 : decide (t831 < (x3_4.length : Int)) = true := decide_eq_true c33
         clear c33
         by_cases c34 : (rd x3_4 t831) < 0
         rotate_left
         ·rw [if_neg c34] at H
          have c34b0 : decide ((rd x3_4 t831) < 0) = false := decide_eq_false c34
          clear c34
          have H' := aM H
          clear H
          obtain ⟨Ao42, co42, eo42⟩ := Kd.R_slice HO_7.out
          subst eo42
          have p830 : 0 ≤ (x8_4 : Int) := of_decide_eq_true za
          have q830 : x8_4 < (t824.length : Int) := of_decide_eq_true za
          obtain ⟨ad830, e830, hx830_0, hx830_1⟩ := at_T59 (Kd.R_reads' HO_7.out).2.2 x8_4 p830 q830
          cases e830
          replace p830 := eq_true p830
          replace q830 := eq_true q830
          go_wp2_with (first | ((with_reducible refine gate_callee (f := 88) rfl ?_); refine goesL_ (some 58) rfl rfl Try.func88 (by kernel_rfl) rfl #[.slice (some ad823) l0.length c0, .agg #[.int .i64 ((rd_T59 t824 x8_4).f0), .int .i64 ((rd_T59 t824 x8_4).f1)]] rfl zm ?_; (with_reducible refine (spec_l02Index.calls k4 _ _ l0 ((rd_T59 t824 x8_4).f0) ((rd_T59 t824 x8_4).f1) t831 _ ?side1 ?side2 A30.out).mono ?_); (case side1 => repeat (first | exact (Kd.C_below HR0.out HB.out) | (with_reducible refine Kd.C_alloc ?_ _) | (with_reducible refine Kd.C_drewN ?_ _) | (with_reducible refine Kd.C_drew ?_))); (case side2 => exact HC0.out); rintro e w43 ⟨rfl, hb⟩; refine ⟨_, rfl, ?_⟩; have n0_ := aM (Kd.R_below (mR_ HO_3.out) hb); have n1_ := aM (Kd.Q_below (by (with_reducible repeat (first | apply Kd.Q_alloc | apply Kd.Q_drewN | apply Kd.Q_drew)); exact HO_6.out) hb); have n2_ := aM (Kd.R_below (mR_ HO_7.out) hb); have n3_ := aM (below_step zb hb); clear HO_3; clear HO_6; clear HO_7; clear HB; have HO_3 := n0_; have HO_6 := n1_; have HO_7 := n2_; have HB := n3_; clear n0_ n1_ n2_ n3_; (try clear hb); (try clear hb2); (try clear hk); (try clear hi); have p832 : 0 ≤ (t831 : Int) := of_decide_eq_true za; have q832 : t831 < (x3_4.length : Int) := of_decide_eq_true za; obtain ⟨ad832, e832, hx832_0⟩ := Kd.at_int (Kd.R_reads' HO_3.out).2.2 t831 p832 q832; obtain rfl : (⟨go12, 0, none⟩ : Addr) = ad832 := (by injection e832); (first | simp only [add_plain] at hx832_0 | simp only [add_at] at hx832_0 | simp only [Addr.add, Nat.zero_add] at hx832_0 | skip); replace p832 := eq_true p832; replace q832 := eq_true q832))
          (try simp only [← hl3_4])
          go_roundg k4
          case measure => have := HK1.out; have := HK2.out; have := HK3.out; have := HK4.out; omega
          case rel => exact ⟨(x3_4), (x6_4), (wrap64 (x8_4 + 1)), zr, H', ⟨by have := HK1.out; have := HK2.out; have := HK3.out; have := HK4.out; omega⟩, ⟨by (try simp only [hl3_3]); (try simp only [hl3_4]); (with_reducible repeat (first | apply Kd.R_alloc | apply Kd.R_drewN | apply Kd.R_drew)); exact HO_3.out⟩, ⟨by (try simp only [hl3_3]); (try simp only [hl3_4]); (with_reducible repeat (first | apply Kd.Q_alloc | apply Kd.Q_drewN | apply Kd.Q_drew)); exact HO_6.out⟩, ⟨by (try simp only [hl3_3]); (try simp only [hl3_4]); (with_reducible repeat (first | apply Kd.R_alloc | apply Kd.R_drewN | apply Kd.R_drew)); exact HO_7.out⟩, ⟨zb⟩⟩
         rw [if_pos c34] at H
         have c34b0 : decide ((rd x3_4 t831) < 0) = true := decide_eq_true c34
         clear c34
         obtain ⟨y833, hy833⟩ : ∃ y_ : List Int, y_ = (x3_4.set (t831 : Int).toNat x5_2) := ⟨_, rfl⟩
         replace H : (if x6_4.length < 17592186044416 then (spec_l02Parts.l3 k4 l0 y833 x5_2 (x6_4 ++ [t831]) t824 (wrap64 (x8_4 + 1))) else (none)) = some r := zy H hy833
         have Ny833 := aM hy833
         clear hy833
         by_cases c36 : x6_4.length < 17592186044416
         rotate_left
         ·rw [if_neg c36] at H
          exact absurd H (by simp)
         rw [if_pos c36] at H
         have LMc36 := aM c36
         clear c36
         obtain ⟨y834, hy834⟩ : ∃ y_ : List Int, y_ = (x6_4 ++ [t831]) := ⟨_, rfl⟩
         replace H : (spec_l02Parts.l3 k4 l0 y833 x5_2 y834 t824 (wrap64 (x8_4 + 1))) = some r := zy H hy834
         have Ny834 := aM hy834
         clear hy834
         have H' := aM H
         clear H
         obtain ⟨Ao37, co37, eo37⟩ := Kd.R_slice HO_7.out
         subst eo37
         have p830 : 0 ≤ (x8_4 : Int) := of_decide_eq_true za
         have q830 : x8_4 < (t824.length : Int) := of_decide_eq_true za
         obtain ⟨ad830, e830, hx830_0, hx830_1⟩ := at_T59 (Kd.R_reads' HO_7.out).2.2 x8_4 p830 q830
         cases e830
         replace p830 := eq_true p830
         replace q830 := eq_true q830
         go_wp2_with (first | ((with_reducible refine gate_callee (f := 88) rfl ?_); refine goesL_ (some 58) rfl rfl Try.func88 (by kernel_rfl) rfl #[.slice (some ad823) l0.length c0, .agg #[.int .i64 ((rd_T59 t824 x8_4).f0), .int .i64 ((rd_T59 t824 x8_4).f1)]] rfl zm ?_; (with_reducible refine (spec_l02Index.calls k4 _ _ l0 ((rd_T59 t824 x8_4).f0) ((rd_T59 t824 x8_4).f1) t831 _ ?side1 ?side2 A30.out).mono ?_); (case side1 => repeat (first | exact (Kd.C_below HR0.out HB.out) | (with_reducible refine Kd.C_alloc ?_ _) | (with_reducible refine Kd.C_drewN ?_ _) | (with_reducible refine Kd.C_drew ?_))); (case side2 => exact HC0.out); rintro e w38 ⟨rfl, hb⟩; refine ⟨_, rfl, ?_⟩; have n0_ := aM (Kd.R_below (mR_ HO_3.out) hb); have n1_ := aM (Kd.Q_below (by (with_reducible repeat (first | apply Kd.Q_alloc | apply Kd.Q_drewN | apply Kd.Q_drew)); exact HO_6.out) hb); have n2_ := aM (Kd.R_below (mR_ HO_7.out) hb); have n3_ := aM (below_step zb hb); clear HO_3; clear HO_6; clear HO_7; clear HB; have HO_3 := n0_; have HO_6 := n1_; have HO_7 := n2_; have HB := n3_; clear n0_ n1_ n2_ n3_; (try clear hb); (try clear hb2); (try clear hk); (try clear hi); have p832 : 0 ≤ (t831 : Int) := of_decide_eq_true za; have q832 : t831 < (x3_4.length : Int) := of_decide_eq_true za; obtain ⟨ad832, e832, hx832_0⟩ := Kd.at_int (Kd.R_reads' HO_3.out).2.2 t831 p832 q832; obtain rfl : (⟨go12, 0, none⟩ : Addr) = ad832 := (by injection e832); (first | simp only [add_plain] at hx832_0 | simp only [add_at] at hx832_0 | simp only [Addr.add, Nat.zero_add] at hx832_0 | skip); replace p832 := eq_true p832; replace q832 := eq_true q832; have p35 : 0 ≤ (t831 : Int) := of_decide_eq_true za; have q35 : (t831 : Int) < ((x3_4.length : Int) : Int) := of_decide_eq_true za; obtain ⟨hx35_0, hf35_0⟩ := Kd.R_celln 0 HO_3.out (t831 : Int) p35 q35; replace p35 := eq_true p35; replace q35 := eq_true q35; obtain ⟨hy39_, hz39_⟩ := Kd.R_celln 0 HO_3.out (t831 : Int) (of_decide_eq_true za) (of_decide_eq_true za); have HP39 := Kd.R_putg HO_3.out (t831 : Int) x5_2) | ((with_reducible refine gate_store (t := 2) (p := 71) rfl ?_); refine store_event (t := 2) (p := 71) (v := ?vo_w40) (w1 := (w38.setCell ⟨go12, (t831 : Int).toNat, none⟩ (.int .i64 x5_2))) ?hg ?ho ?hn ?hr ?_; (case ho => rfl); (case hg => rfl); (case hn => rfl); (case hr => first | (go_simp; done) | (go_simp; rfl)); intro w40 hw; have hg : w38.grownBy w40 (some go12) := (by rw [hw]; exact HP39.2); have hp_ : Kd.R (Kd.int .i64) 2 w40 w.heap.size (fun k_ => some k_ ≠ (u6 : Value).ownBlock) (.slice (some ⟨go12, 0, none⟩) x3_4.length co13) y833 := (by rw [hw, Ny833.out]; exact HP39.1); clear HP39; have n0_ := aM (hp_); have n1_ := aM (Kd.Q_after (v := (.slice (some ⟨go12, 0, none⟩) x3_4.length co13)) (v1 := (.slice (some ⟨go12, 0, none⟩) x3_4.length co13)) (ok := (fun _ => True)) (by (with_reducible repeat (first | apply Kd.Q_alloc | apply Kd.Q_drewN | apply Kd.Q_drew)); exact Kd.Q_mono HO_6.out (fun _ hk => ⟨trivial, hk⟩)) hg (.inl rfl)); have n2_ := aM (Kd.R_over' (v := (.slice (some ⟨go12, 0, none⟩) x3_4.length co13)) (mR_ HO_7.out) (Kd.R_typed HO_3.out) (by decide) hg); have n3_ := aM ((by rw [hw]; exact below_set (HB.out) GB12.out : Below w.heap.size w w40)); clear HO_3; clear HO_6; clear HO_7; clear HB; have HO_3 := n0_; have HO_6 := n1_; have HO_7 := n2_; have HB := n3_; clear n0_ n1_ n2_ n3_; clear hg hw hp_) | ((with_reducible refine gate_builtin (b := .append) (xs := #[.tmp 72, .tmp 74]) rfl ?_); at_builtin; refine Kd.Q_append (Kd.int .i64) (w0 := w) w.heap.size rfl (.tmp 72) (.tmp 74) 22 2 (.int .i64 0) 8 rfl Try.underlying22 info2 rfl (by decide) (by omega) u6 x6_4 t831 [.int .i64 t831] (fun k_ => some k_ ≠ (.slice (some ⟨go12, 0, none⟩) x3_4.length co13 : Value).ownBlock) (fun _ => False) rfl rfl ?aP (fun _ hk => hk.elim) ?aF ?aO ?aB ?aS ?aL ?_; (case aP => exact rfl); (case aB => exact zb); (case aF => exact (fun k_ hk => Kd.fresh' (Kd.R_lt (mR_ HO_3.out)) k_ hk)); (case aO => exact (by (with_reducible repeat (first | apply Kd.Q_alloc | apply Kd.Q_drewN | apply Kd.Q_drew)); exact Kd.Q_mono HO_6.out (fun _ hk => hk.2))); (case aS => exact (below_size zb)); (case aL => have := LMc36.out; omega); intro v835 w41 ho hb hg hat; rw [← Ny834.out] at ho; have n0_ := aM (Kd.R_after (ok := (fun _ => True)) (by (with_reducible repeat (first | apply Kd.R_alloc | apply Kd.R_drewN | apply Kd.R_drew)); exact Kd.R_mono HO_3.out (fun _ hk => ⟨trivial, hk⟩)) hg hat); have n1_ := aM (Kd.R_over' (mR_ HO_7.out) (Kd.Q_typed (by (with_reducible repeat (first | apply Kd.Q_alloc | apply Kd.Q_drewN | apply Kd.Q_drew)); exact HO_6.out)) (by decide) hg); have n2_ := aM (hb); have n3_ := aM (ho); clear HO_3; clear HO_7; clear HB; clear HO_6; have HO_3 := n0_; have HO_7 := n1_; have HB := n2_; have HO836 := n3_; clear n0_ n1_ n2_ n3_; clear ho hb hg hat))
         (try simp only [← hl3_4])
         go_roundg k4
         case measure => have := HK1.out; have := HK2.out; have := HK3.out; have := HK4.out; omega
         case rel => exact ⟨(y833), (y834), (wrap64 (x8_4 + 1)), zr, H', ⟨by have := HK1.out; have := HK2.out; have := HK3.out; have := HK4.out; omega⟩, ⟨by (try simp only [hl3_3]); (try simp only [hl3_4]); (with_reducible repeat (first | apply Kd.R_alloc | apply Kd.R_drewN | apply Kd.R_drew)); exact Kd.R_mono HO_3.out (fun _ hk => hk.2)⟩, ⟨by (try simp only [hl3_3]); (try simp only [hl3_4]); (with_reducible repeat (first | apply Kd.Q_alloc | apply Kd.Q_drewN | apply Kd.Q_drew)); exact HO836.out⟩, ⟨by (try simp only [hl3_3]); (try simp only [hl3_4]); (with_reducible repeat (first | apply Kd.R_alloc | apply Kd.R_drewN | apply Kd.R_drew)); exact HO_7.out⟩, ⟨zb⟩⟩
def lastIdx : List S59 → S59 → Nat → Option Nat
  | [], _, _ => none
  | a :: r, c, i => match lastIdx r c (i + 1) with
    | some j => some j
    | none => if a.f0 = c.f0 ∧ a.f1 = c.f1 then some i else none
def wfC (c : S59) : Bool := (Lit.int .i64 c.f0).wf && (Lit.int .i64 c.f1).wf
def impl_partsLook.f (l0 : List (S59)) (a1_0 : Int) (a1_1 : Int) : Option (Int × Bool) :=
  if wfC ⟨a1_0, a1_1⟩ = true then some (match lastIdx l0 ⟨a1_0, a1_1⟩ 0 with | some j => ((j : Int), true) | none => (0, false)) else none
theorem lastIdx_snoc (c d : S59) : ∀ (l : List S59) (i : Nat), lastIdx (l ++ [c]) d i = if c.f0 = d.f0 ∧ c.f1 = d.f1 then some (i + l.length) else lastIdx l d i
  | [], i => by simp [lastIdx]
  | a :: r, i => by
    rw [List.cons_append, lastIdx, lastIdx_snoc c d r (i + 1)]
    by_cases h : c.f0 = d.f0 ∧ c.f1 = d.f1
    · simp only [h, and_self, if_true, List.length_cons]; congr 1; omega
    · simp only [h, if_false]; rw [lastIdx]
theorem laidOutP : laidOutB Try.prog = true := by kernel_rfl
theorem keyedC : Maps.Keyed Try.prog 59 := Maps.Keyed.of_law (deep_law_laid laidOutP (m := 4) (by omega) (of_decide_eq_true (by kernel_rfl)) (by kernel_rfl) (by kernel_rfl))
theorem keyTypeC : Try.prog.keyType 59 = true := by kernel_rfl
theorem cellsOfC : Try.prog.cellsOf 59 = 2 := by kernel_rfl
theorem cellsOfI : Try.prog.cellsOf 2 = 1 := by kernel_rfl
theorem typesSize : ∃ n, Try.prog.types.size = n + 1 := ⟨Try.prog.types.size - 1, by have : (0 < Try.prog.types.size) := of_decide_eq_true (by kernel_rfl); omega⟩
abbrev valC (c : S59) : Value := .agg #[.int .i64 c.f0, .int .i64 c.f1]
theorem keyC (c : S59) (h : wfC c = true) : ∃ kl, keyOf Try.prog 59 (valC c) = some kl := by
  unfold wfC at h
  rw [Bool.and_eq_true] at h
  obtain ⟨n, hn⟩ := typesSize
  unfold keyOf
  rw [Try.underlying59]
  have hf : (valC c).formed Try.prog 59 = true := by
    simp only [Value.formed, Try.underlying59, cellsOfC]; rfl
  simp only [keyTypeC, hf, Bool.and_self, if_true, hn]
  refine ⟨_, Option.map_eq_some_iff.2 ⟨[.int .i64 c.f0, .int .i64 c.f1], ?_, rfl⟩⟩
  simp [Program.keyLits, Try.underlying59, Try.underlying2, cellsOfC, cellsOfI, Value.cells, h.1, h.2]
theorem valC_inj {c d : S59} (h : valC c = valC d) : c.f0 = d.f0 ∧ c.f1 = d.f1 := by
  simpa [valC] using h
def PM (w : World) (b : Nat) (l : List S59) : Prop :=
  ∃ (D : DataW Unit) (n : Nat), w.ownsMap Try.prog 59 (plainElem Try.prog 3) b n D ∧ n ≤ l.length ∧ Maps.IsMap D ∧
    ∀ (c : S59) (kl : Lit), keyOf Try.prog 59 (valC c) = some kl → Maps.has D kl = (lastIdx l c 0).isSome ∧ ∀ j : Nat, lastIdx l c 0 = some j → D.atKey kl (.lit (.int .i64 0)) = .lit (.int .i64 j)
section
variable {w w1 W : World} {b g : Nat} {l : List S59}
theorem pm_kept (h : PM w b l) {row : Option Nat} (hg : w.grownBy w1 row) (hne : some b ≠ row) : PM w1 b l := by
  obtain ⟨D, n, ho, r⟩ := h
  exact ⟨D, n, ho.kept hg hne, r⟩
theorem pm_lt (h : PM w b l) : b < w.heap.size := by
  obtain ⟨D, n, ho, r⟩ := h
  exact ho.lt
theorem pm_step (h : PM w b l) (hb : Below w.heap.size w w1) : PM w1 b l := pm_kept h (grown_of_below hb none) (by simp)
theorem pm_alloc (h : PM w b l) (o : Obj) : PM (w.alloc o) b l := pm_kept h (World.grownBy_alloc w o none) (by simp)
theorem pm_drewN (h : PM w b l) (n : Nat) : PM (w.drewN n) b l := pm_step h (pw_below_drewN (Below.refl _ _) n)
theorem pm_drew (h : PM w b l) : PM w.drew b l := pm_step h (below_drew1 (Below.refl _ _))
theorem pm_obj (h : PM w b l) : ∃ es clock, w.heap[b]? = some (.map es clock) := by
  obtain ⟨D, n, ⟨es, clock, hb, _⟩, r⟩ := h
  exact ⟨es, clock, hb⟩
theorem pm_neB (h : PM w b l) {cs : Array Value} {t : TypeId} {fr : Nat × Nat} (hg : w.heap[g]? = some (.cells cs t fr)) : b ≠ g := by
  obtain ⟨es, clock, hb⟩ := pm_obj h
  rintro rfl
  rw [hb] at hg
  simp at hg
theorem pm_farN (h : PM w b l) (hne : b ≠ g) {j : Nat} (u : Value) : PM (w.setCell ⟨g, j, none⟩ u) b l :=
  pm_kept (row := some g) h ⟨rfl, rfl, rfl, by simp, fun k _ hk => Below.heap_setCell _ _ _ k (fun e => hk (by rw [e]))⟩ (by simpa using hne)
theorem pm_row {α : Type} {d : Kd α} {e base : Nat} {ok : Nat → Prop} {v : Value} {xs : List α} (h : PM w b l) (hr : d.R e w base ok v xs) : some b ≠ v.ownBlock := by
  intro he
  obtain ⟨cells, hc⟩ := Kd.R_typed hr b he.symm
  exact pm_neB h hc rfl
theorem pm_append {α : Type} {d : Kd α} {e base : Nat} {ok : Nat → Prop} {v : Value} {xs : List α} (h : PM w b l) (hr : d.R e w base ok v xs) (hg : w.grownBy w1 v.ownBlock) : PM w1 b l := pm_kept h hg (pm_row h hr)
theorem R_map {α : Type} {d : Kd α} {e base : Nat} {ok : Nat → Prop} {v : Value} {xs : List α} (hr : d.R e w base ok v xs) (h : PM w b l) (hg : w.grownBy w1 (some b)) : d.R e w1 base ok v xs :=
  Kd.R_mono (Kd.R_move (Kd.R_bound hr) (fun k hk => hg.block k hk.2.2.1 (by
    obtain ⟨_, _, _, q, _, cells, hc⟩ := hk
    intro he
    injection he with he
    subst he
    exact pm_neB h hc rfl))) (fun _ hk => hk.1)
end
section
variable {rest : List Oper} {o : Oper} {a : Act} {ops : Array Oper} {Q : Exit → Act → World → Prop} {W : World} {b : Nat} {l : List S59}
theorem gate_map {t : TypeId} {m x v : Operand} (_ho : o.op = .mapUpdate t m x v) (h : wpList Try.prog ops Q (o :: rest) a W) : wpList Try.prog ops Q (o :: rest) a W := h
theorem pm_make (hgd : o.guard = none) (hop : o.op = .makeMap 135 none) (h : ∀ b w1, Below W.heap.size W w1 → W.heap.size ≤ b → PM w1 b [] → wpList Try.prog ops Q rest (a.put o.dst (.map (some b))) w1) : wpList Try.prog ops Q (o :: rest) a W := by
  refine Kd.event_run hgd (v := .map (some W.heap.size)) (w1 := W.alloc (.map #[] 0)) ?_ (h _ _ (below_alloc (Below.refl _ _) _) (Nat.le_refl _) ⟨.map [], 0, World.ownsMap_made _ _ _ _, Nat.le_refl _, Maps.isMap_empty, fun c kl _ => ⟨rfl, fun j hj => by simp [lastIdx] at hj⟩⟩)
  simp [execOp, hop, run_makeMap]
theorem pm_put (hgd : o.guard = none) (m x v : Operand) (hop : o.op = .mapUpdate 135 m x v) (hm : a.eval m = .map (some b)) (hM : PM W b l) (hl : l.length ≤ 35184372088832) (c : S59) (hx : a.eval x = valC c) (hv : a.eval v = .int .i64 (l.length : Int)) (hc : wfC c = true)
    (h : ∀ w1, W.grownBy w1 (some b) → PM w1 b (l ++ [c]) → wpList Try.prog ops Q rest (a.put o.dst undef) w1) : wpList Try.prog ops Q (o :: rest) a W := by
  obtain ⟨D, n, ho, hn, hI, hD⟩ := hM
  obtain ⟨kl, hk⟩ := keyC c hc
  have hw : (Lit.int .i64 (l.length : Int)).wf = true := by
    simp only [Lit.wf, IntKind.min, IntKind.max, IntKind.signed, IntKind.bits, Bool.and_eq_true, decide_eq_true_eq, if_true]; omega
  refine wpList_mapUpdate_own W hgd m x v 135 hop 59 3 keyedC Try.underlying135 (plainElem Try.prog 3) b n D hm ho (by simp only [maxLen]; omega) _ _ kl hx hv hk _ [] (plainElem_int Try.underlying3 hw) ?_
  intro w1 ho1 hg
  refine h w1 hg ⟨_, _, ho1, by simp; omega, hI.put _ _, fun d kd hd => ?_⟩
  rw [lastIdx_snoc]
  by_cases e : c.f0 = d.f0 ∧ c.f1 = d.f1
  · have : valC c = valC d := by simp [valC, e.1, e.2]
    rw [← this, hk] at hd
    injection hd with hd
    subst hd
    simp only [e, and_self, if_true, Nat.zero_add]
    refine ⟨by rw [Maps.has_put_same hI (keyedC.key hk)]; rfl, fun j hj => ?_⟩
    obtain rfl := Option.some.inj hj
    exact Maps.atKey_put_same hI (keyedC.key hk) _ _
  · have hne : kd ≠ kl := fun he => e (valC_inj (keyedC.inj hk (he ▸ hd)))
    simp only [e, if_false]
    rw [Maps.has_put_other hne, Maps.atKey_put_other hne]
    exact hD d kd hd
theorem rd_take {l : List S59} {i : Nat} (h : i < l.length) : l.take i ++ [l.getD i z59] = l.take (i + 1) := by
  rw [List.take_add_one, List.getD_eq_getElem?_getD, List.getElem?_eq_getElem h]; rfl
theorem pm_putAt (hgd : o.guard = none) (m x v : Operand) (hop : o.op = .mapUpdate 135 m x v) (hm : a.eval m = .map (some b)) (i : Int) (hM : PM W b (l.take i.toNat)) (h0 : 0 ≤ i) (h1 : i < (l.length : Int)) (hl : l.length ≤ 35184372088832) (hw : l.all wfC = true)
    (hx : a.eval x = .agg #[.int .i64 (rd_T59 l i).f0, .int .i64 (rd_T59 l i).f1]) (hv : a.eval v = .int .i64 i)
    (h : ∀ w1, W.grownBy w1 (some b) → 0 ≤ wrap64 (i + 1) → PM w1 b (l.take (wrap64 (i + 1)).toNat) → wpList Try.prog ops Q rest (a.put o.dst undef) w1) : wpList Try.prog ops Q (o :: rest) a W := by
  have hi : i.toNat < l.length := by omega
  have e : wrap64 (i + 1) = i + 1 := by simp only [wrap64]; omega
  have hlen : (l.take i.toNat).length = i.toNat := by rw [List.length_take]; omega
  refine pm_put hgd m x v hop hm hM (by omega) (rd_T59 l i) hx (by rw [hv, hlen]; congr 1; omega) ?_ ?_
  · refine List.all_eq_true.1 hw _ ?_
    unfold rd_T59
    rw [List.getD_eq_getElem?_getD, List.getElem?_eq_getElem hi]
    exact List.getElem_mem hi
  · intro w1 hg hp
    have hp' : PM w1 b (l.take i.toNat ++ [l.getD i.toNat z59]) := hp
    rw [rd_take hi] at hp'
    refine h w1 hg (by omega) ?_
    rw [e, show (i + 1).toNat = i.toNat + 1 by omega]
    exact hp'
end
end Go.Proofs.Ytabdmdkoffpppaa.F
end
