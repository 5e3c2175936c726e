/- The row of FnEdges, with what it needs: text 2 of 9. -/
import Derived.Test.YtpoiiaephcddoaaL0
import Derived.DeepKeys4
import Derived.Maps.OwnSet
import Derived.Maps.RangeWalk
import Derived.Sort.Grow
import Derived.Test.YtpoiiaephcddoaaProg
set_option maxHeartbeats 8000000
set_option maxRecDepth 100000
namespace Go.Proofs.Ytpoiiaephcddoaa.F
theorem xA {α : Type _} (l : List α) (i : Nat) (a : α) : l.toArray.setIfInBounds i a = (l.set i a).toArray := List.setIfInBounds_toArray l i a
theorem xB {α : Type _} {x : α} {xs : List α} {a : α} : (x :: xs).set 0 a = a :: xs := rfl
theorem xC {α : Type _} {x : α} {xs : List α} {i : Nat} {a : α} : (x :: xs).set (i + 1) a = x :: xs.set i a := rfl
theorem mA {α : Type _} {β : Type _} {f : α → β} {l : List α} : Array.map f l.toArray = (List.map f l).toArray := List.map_toArray
theorem mB {α : Type _} {β : Type _} {f : α → β} {a : α} {l : List α} : List.map f (a :: l) = f a :: List.map f l := rfl
theorem mC {α : Type _} {β : Type _} {f : α → β} : List.map f [] = [] := rfl
theorem lD {α : Type _} {i : Nat} {l : List α} : (List.drop i l).length = l.length - i := List.length_drop
theorem lT {α : Type _} {i : Nat} {l : List α} : (List.take i l).length = min i l.length := List.length_take
end Go.Proofs.Ytpoiiaephcddoaa.F
namespace Go.Proofs.Ytpoiiaephcddoaa.F
open Go.RowKit Go.Proofs.YtpoiiaephcddoaaW.PrintWords Go.Proofs.YtpoiiaephcddoaaW.PrintLast Go.Proofs.YtpoiiaephcddoaaW.PrintMore
theorem aM {p : Prop} (h : p) : Aside0 p := ⟨h⟩
theorem zb {p : Prop} (h : p := by repeat (first | (with_reducible first | exact HB.out | apply below_alloc | apply pw_below_drewN | apply below_drew1) | exact HB.out)) : p := h
theorem zs {q p : Prop} (x : q) (h : q → p := by intro x_; repeat (first | (with_reducible first | exact HB.out | apply below_alloc | apply pw_below_drewN | apply below_drew1 | refine below_set ?_ x_) | exact HB.out)) : p := h x
theorem zt {q r p : Prop} (x : q) (y : r) (h : q → r → p := by intro x_ y_; repeat (first | (with_reducible first | exact HB.out | apply below_alloc | apply pw_below_drewN | apply below_drew1 | refine below_set ?_ x_ | refine below_set ?_ y_) | exact HB.out)) : p := h x y
theorem mR_ {q p : Prop} (x : q) (h : q → p := by intro x_; (with_reducible repeat (first | apply Kd.R_alloc | apply Kd.R_drewN | apply Kd.R_drew)); exact x_) : p := h x
theorem mV_ {q p : Prop} (x : q) (h : q → p := by intro x_; (with_reducible repeat (first | apply Kd.V_alloc | apply Kd.V_drewN | apply Kd.V_drew)); exact x_) : p := h x
theorem mN_ {q p : Prop} (x : q) (h : q → p := by intro x_; (with_reducible repeat (first | apply Kd.N_alloc | apply Kd.N_drewN | apply Kd.N_drew)); exact x_) : p := h x
theorem mS_ {q p : Prop} (x : q) (h : q → p := by intro x_; (with_reducible repeat (first | apply Kd.S_alloc | apply Kd.S_drewN | apply Kd.S_drew)); exact x_) : p := h x
theorem mC_ {q p : Prop} (x : q) (h : q → p := by intro x_; (with_reducible repeat (first | apply Kd.C_alloc | apply Kd.C_drewN | apply Kd.C_drew)); exact x_) : p := h x
theorem mM_ {q p : Prop} (x : q) (h : q → p := by intro x_; (with_reducible repeat (first | apply Kd.M_alloc | apply Kd.M_drewN | apply Kd.M_drew)); exact x_) : p := h x
theorem mB_ {q p : Prop} (x : q) (h : q → p := by intro x_; (with_reducible repeat (first | refine blk_drewN ?_ _ | refine blk_drew ?_ | refine blk_alloc ?_ _)); exact x_) : p := h x
theorem mQ_ {q p : Prop} (x : q) (h : q → p := by intro x_; repeat (first | (with_reducible exact x_) | (with_reducible refine Kd.C_alloc ?_ _) | (with_reducible refine Kd.C_drewN ?_ _) | (with_reducible refine Kd.C_drew ?_) | exact x_)) : p := h x
theorem za {p : Prop} (h : p := by first | (with_reducible assumption) | assumption) : p := h
theorem zm {p : Prop} (h : p := by (try simp only [mA, mB, mC]); first | done | rfl | (simp only [lD, lT]; rfl)) : p := h
theorem zz {p : Prop} (h : p := by exact any_of HT_.out (by kernel_rfl)) : p := h
theorem zr {p : Prop} (h : p := by first | rfl | (simp; done) | (simp [*]; done)) : p := h
theorem ze {p : Prop} (h : p := by rw [hg]; exact (below_size zb)) : p := h
theorem zf {q p : Prop} (x : q) (h : q → p := by intro x_; rw [hg]; exact (below_size (zs x_))) : p := h x
theorem zw {p : Prop} (h : p := by first | rfl | (simp [errW_none, errW_some] <;> rfl) | (simp [*, errW_none, errW_some] <;> rfl)) : p := h
theorem zl {q p : Prop} (x : q) (h : q → p := by intro x_; rw [hg]; exact Nat.ne_of_lt (blk_lt (mB_ x_))) : p := h x
theorem zn {q p : Prop} (x : q) (h : q → p := by intro x_; rw [hg]; exact Nat.ne_of_gt (blk_lt (mB_ x_))) : p := h x
theorem zK {q p : Prop} (x : q) (h : q → p := by intro x_; repeat (first | (with_reducible first | exact x_ | apply KeepBut.set_ | apply keep_drewN | apply keep_drew | apply keep_alloc) | exact x_)) : p := h x
theorem zI56 {q p : Prop} (x : q) (h : q → p := by intro x_; repeat (first | (with_reducible first | exact x_ | apply IsS56.alloc | apply IsS56.drewN | apply IsS56.drew | apply IsS56.set_1 | apply IsS56.set_2) | exact x_)) : p := h x
theorem zc {q p : Prop} (x : q) (h : q → p := by intro x_; repeat (first | exact (Kd.R_reads' x_).2.2 | (with_reducible refine Kd.C_alloc ?_ _) | (with_reducible refine Kd.C_drewN ?_ _) | (with_reducible refine Kd.C_drew ?_))) : p := h x
theorem zk {w w' w2 : World} {a : Addr} {v : Value} (hb : Below w.heap.size w w') (h : w.cell? a = some v) (e : w2.cell? a = w'.cell? a := by rfl) : w2.cell? a = some v := e.trans ((hb.cell (World.block_lt_of_cell? _ _ h)).trans h)
theorem zp (i : Nat) (N : Option Tmp) (v : Value) {P : Program} {ops : Array Oper} {Q : Exit → Act → World → Prop} {md : Region.Mode} {S : World → Prop} {ds : List Nat} {oi : Oper} {fuel : Nat} {l : Array Bool} {a : Act} {w : World} (l' : Array Bool) (hi : ops[i]? = some oi) (hN : oi.dst = N) (hy : Yields P ops oi v a) (a' : Act) (ha : a.put N v = a') (h : wpAnyLast P md ops Q S ds fuel l' a' w) (hc : anyB md ops l l' i = true := by exact any_of HT_.out (by kernel_rfl)) (hQ : ∀ c a w, Q (.panic c) (a.put oi.dst v) w → Q (.panic c) a w := by exact fun _ _ _ h => h) : wpAnyLast P md ops Q S ds (fuel + 1) l a w := pure_ l' hi hN hc hQ hy ha h
theorem zu (i : Nat) (N : Option Tmp) (v : Value) {P : Program} {ops : Array Oper} {Q : Exit → Act → World → Prop} {md : Region.Mode} {S : World → Prop} {ds : List Nat} {oi : Oper} {fuel : Nat} {l : Array Bool} {a : Act} {w : World} (l' : Array Bool) (hi : ops[i]? = some oi) (hN : oi.dst = N) (hy : YieldsIf P ops S oi v a) (hS : S w) (a' : Act) (ha : a.put N v = a') (h : wpAnyLast P md ops Q S ds fuel l' a' w) (hc : takeB md ops ds l l' i = true := by exact take_ofW HT_.out HW_.out (by kernel_rfl)) (hQ : ∀ c a w, Q (.panic c) (a.put oi.dst v) w → Q (.panic c) a w := by exact fun _ _ _ h => h) : wpAnyLast P md ops Q S ds (fuel + 1) l a w := take_ l' hi hN hc hQ hy hS ha h
theorem zx {P : Program} {ops : Array Oper} {rest : List Oper} {o : Oper} {a : Act} {Q : Exit → Act → World → Prop} {W : World} (N : Tmp) (cs : Array Value) (t : TypeId) (h : ∀ g, g = W.heap.size → ∀ w1, w1.heap[g]? = some (.cells cs t (0, 0)) → Below W.heap.size W w1 → wpList P ops Q rest (a.put o.dst (.pointer (some ⟨g, 0, none⟩))) w1) (hd : o.dst = some N := by rfl) (hgd : o.guard = none := by rfl) (hrun : (execOp a.eval o).run P W = .ok (.value (.pointer (some ⟨W.heap.size, 0, none⟩))) (W.alloc (.cells cs t (0, 0))) := by first | (go_simp; done) | (go_simp; rfl)) : wpList P ops Q (o :: rest) a W := box_event hgd hd hrun h
theorem zd0 {q p : Prop} (x : q) (h : q → p := by intro x_; (with_reducible repeat (first | apply Kd.R_alloc | apply Kd.R_drewN | apply Kd.R_drew)); exact Kd.R_mono x_ (fun _ hk => ⟨hk.2, hk.1.2⟩)) : p := h x
theorem zd1 {q p : Prop} (x : q) (h : q → p := by intro x_; (with_reducible repeat (first | apply Kd.R_alloc | apply Kd.R_drewN | apply Kd.R_drew)); exact Kd.R_mono x_ (fun _ hk => ⟨hk.1.2, hk.2⟩)) : p := h x
theorem zd2 {q p : Prop} (x : q) (h : q → p := by intro x_; (with_reducible repeat (first | apply Kd.R_alloc | apply Kd.R_drewN | apply Kd.R_drew)); exact Kd.R_mono x_ (fun _ hk => trivial)) : p := h x
theorem zd3 {q p : Prop} (x : q) (h : q → p := by intro x_; (with_reducible repeat (first | apply Kd.R_alloc | apply Kd.R_drewN | apply Kd.R_drew)); exact Kd.R_mono x_ (fun _ hk => ⟨hk.2, hk.1⟩)) : p := h x
theorem zd4 {q p : Prop} (x : q) (h : q → p := by intro x_; (with_reducible repeat (first | apply Kd.R_alloc | apply Kd.R_drewN | apply Kd.R_drew)); exact Kd.R_mono x_ (fun _ hk => hk.2)) : p := h x
abbrev zA0 : Array Bool := (fun (_ f : Bool) => #[f,f,f,f,f,f,f,f,f,f,f,f,f,f,f,f,f,f,f,f,f,f,f]) true false
abbrev zA1 : Array Bool := (fun (t f : Bool) => #[t,f,f,f,f,f,f,f,f,f,f,f,f,f,f,f,f,f,f,f,f,f,f]) true false
abbrev zA2 : Array Bool := (fun (t f : Bool) => #[t,t,f,f,f,f,f,f,f,f,f,f,f,f,f,f,f,f,f,f,f,f,f]) true false
abbrev zA3 : Array Bool := (fun (t f : Bool) => #[t,t,t,f,f,f,f,f,f,f,f,f,f,f,f,f,f,f,f,f,f,f,f]) true false
abbrev zA4 : Array Bool := (fun (t f : Bool) => #[t,t,t,t,f,f,f,f,f,f,f,f,f,f,f,f,f,f,f,f,f,f,f]) true false
abbrev zA5 : Array Bool := (fun (t f : Bool) => #[t,t,t,t,t,f,f,f,f,f,f,f,f,f,f,f,f,f,f,f,f,f,f]) true false
abbrev zA6 : Array Bool := (fun (t f : Bool) => #[t,t,t,t,t,t,f,f,f,f,f,f,f,f,f,f,f,f,f,f,f,f,f]) true false
abbrev zA7 : Array Bool := (fun (t f : Bool) => #[t,t,t,t,t,t,t,f,f,f,f,f,f,f,f,f,f,f,f,f,f,f,f]) true false
abbrev zA8 : Array Bool := (fun (t f : Bool) => #[t,t,t,t,t,t,t,t,f,f,f,f,f,f,f,f,f,f,f,f,f,f,f]) true false
abbrev zA9 : Array Bool := (fun (t f : Bool) => #[t,t,t,t,t,t,t,t,t,f,f,f,f,f,f,f,f,f,f,f,f,f,f]) true false
abbrev zA10 : Array Bool := (fun (t f : Bool) => #[t,t,t,t,t,t,t,t,t,t,f,f,f,f,f,f,f,f,f,f,f,f,f]) true false
abbrev zA11 : Array Bool := (fun (t f : Bool) => #[t,t,t,t,t,t,t,t,t,t,t,f,f,f,f,f,f,f,f,f,f,f,f]) true false
abbrev zA12 : Array Bool := (fun (t f : Bool) => #[t,t,t,t,t,t,t,t,t,t,t,t,f,f,f,f,f,f,f,f,f,f,f]) true false
abbrev zA13 : Array Bool := (fun (t f : Bool) => #[t,t,t,t,t,t,t,t,t,t,t,t,t,f,f,f,f,f,f,f,f,f,f]) true false
abbrev zA14 : Array Bool := (fun (t f : Bool) => #[t,t,t,t,t,t,t,t,t,t,t,t,t,t,f,f,f,f,f,f,f,f,f]) true false
abbrev zA15 : Array Bool := (fun (t f : Bool) => #[t,t,t,t,t,t,t,t,t,t,t,t,t,t,t,f,f,f,f,f,f,f,f]) true false
abbrev zA16 : Array Bool := (fun (t f : Bool) => #[t,t,t,t,t,t,t,t,t,t,t,t,t,t,t,t,f,f,f,f,f,f,f]) true false
abbrev zA17 : Array Bool := (fun (t f : Bool) => #[t,t,t,t,t,t,t,t,t,t,t,t,t,t,t,t,t,f,f,f,f,f,f]) true false
abbrev zA18 : Array Bool := (fun (t f : Bool) => #[t,t,t,t,t,t,t,t,t,t,t,t,t,t,t,t,t,t,f,f,f,f,f]) true false
abbrev zA19 : Array Bool := (fun (t f : Bool) => #[t,t,t,t,t,t,t,t,t,t,t,t,t,t,t,t,t,t,t,f,f,f,f]) true false
abbrev zA20 : Array Bool := (fun (t f : Bool) => #[t,t,t,t,t,t,t,t,t,t,t,t,t,t,t,t,t,t,t,t,f,f,f]) true false
abbrev zA21 : Array Bool := (fun (t f : Bool) => #[t,t,t,t,t,t,t,t,t,t,t,t,t,t,t,t,t,t,t,t,t,f,f]) true false
abbrev zA22 : Array Bool := (fun (t f : Bool) => #[t,t,t,t,t,t,t,t,t,t,t,t,t,t,t,t,t,t,t,t,t,t,f]) true false
abbrev zA23 : Array Bool := (fun (t _ : Bool) => #[t,t,t,t,t,t,t,t,t,t,t,t,t,t,t,t,t,t,t,t,t,t,t]) true false
abbrev zA24 : Array Bool := (fun (t f : Bool) => #[t,t,t,t,t,t,t,t,t,t,t,t,t,t,f,t,f,f,f,f,f,f,f]) true false
abbrev zA25 : Array Bool := (fun (t f : Bool) => #[t,t,t,t,t,t,t,t,t,t,t,t,t,t,f,t,t,f,f,f,f,f,f]) true false
abbrev zA26 : Array Bool := (fun (t f : Bool) => #[t,t,t,t,t,t,t,t,t,t,t,t,t,t,f,t,t,t,f,f,f,f,f]) true false
abbrev zA27 : Array Bool := (fun (_ f : Bool) => #[f,f,f,f,f,f,f,f,f,f,f,f,f,f,f,f,f,f,f,f,f,f,f,f]) true false
abbrev zA28 : Array Bool := (fun (t f : Bool) => #[t,f,f,f,f,f,f,f,f,f,f,f,f,f,f,f,f,f,f,f,f,f,f,f]) true false
abbrev zA29 : Array Bool := (fun (t f : Bool) => #[t,t,f,f,f,f,f,f,f,f,f,f,f,f,f,f,f,f,f,f,f,f,f,f]) true false
abbrev zA30 : Array Bool := (fun (t f : Bool) => #[t,t,t,f,f,f,f,f,f,f,f,f,f,f,f,f,f,f,f,f,f,f,f,f]) true false
abbrev zA31 : Array Bool := (fun (t f : Bool) => #[t,t,t,t,f,f,f,f,f,f,f,f,f,f,f,f,f,f,f,f,f,f,f,f]) true false
abbrev zA32 : Array Bool := (fun (t f : Bool) => #[t,t,t,t,t,f,f,f,f,f,f,f,f,f,f,f,f,f,f,f,f,f,f,f]) true false
abbrev zA33 : Array Bool := (fun (t f : Bool) => #[t,t,t,t,t,t,f,f,f,f,f,f,f,f,f,f,f,f,f,f,f,f,f,f]) true false
abbrev zA34 : Array Bool := (fun (t f : Bool) => #[t,t,t,t,t,t,t,f,f,f,f,f,f,f,f,f,f,f,f,f,f,f,f,f]) true false
abbrev zA35 : Array Bool := (fun (t f : Bool) => #[t,t,t,t,t,t,t,t,f,f,f,f,f,f,f,f,f,f,f,f,f,f,f,f]) true false
abbrev zA36 : Array Bool := (fun (t f : Bool) => #[t,t,t,t,t,t,t,t,t,f,f,f,f,f,f,f,f,f,f,f,f,f,f,f]) true false
abbrev zA37 : Array Bool := (fun (t f : Bool) => #[t,t,t,t,t,t,t,t,t,t,f,f,f,f,f,f,f,f,f,f,f,f,f,f]) true false
abbrev zA38 : Array Bool := (fun (t f : Bool) => #[t,t,t,t,t,t,t,t,t,t,t,f,f,f,f,f,f,f,f,f,f,f,f,f]) true false
abbrev zA39 : Array Bool := (fun (t f : Bool) => #[t,t,t,t,t,t,t,t,t,t,t,t,f,f,f,f,f,f,f,f,f,f,f,f]) true false
abbrev zA40 : Array Bool := (fun (t f : Bool) => #[t,t,t,t,t,t,t,t,t,t,t,t,t,f,f,f,f,f,f,f,f,f,f,f]) true false
abbrev zA41 : Array Bool := (fun (t f : Bool) => #[t,t,t,t,t,t,t,t,t,t,t,t,t,t,f,f,f,f,f,f,f,f,f,f]) true false
abbrev zA42 : Array Bool := (fun (t f : Bool) => #[t,t,t,t,t,t,t,t,t,t,t,t,t,t,t,f,f,f,f,f,f,f,f,f]) true false
abbrev zA43 : Array Bool := (fun (t f : Bool) => #[t,t,t,t,t,t,t,t,t,t,t,t,t,t,t,t,f,f,f,f,f,f,f,f]) true false
abbrev zA44 : Array Bool := (fun (t f : Bool) => #[t,t,t,t,t,t,t,t,t,t,t,t,t,t,t,t,t,f,f,f,f,f,f,f]) true false
abbrev zA45 : Array Bool := (fun (t f : Bool) => #[t,t,t,t,t,t,t,t,t,t,t,t,t,t,t,t,t,t,f,f,f,f,f,f]) true false
abbrev zA46 : Array Bool := (fun (t f : Bool) => #[t,t,t,t,t,t,t,t,t,t,t,t,t,t,t,t,t,t,t,f,f,f,f,f]) true false
abbrev zA47 : Array Bool := (fun (t f : Bool) => #[t,t,t,t,t,t,t,t,t,t,t,t,t,t,t,t,t,t,t,t,f,f,f,f]) true false
abbrev zA48 : Array Bool := (fun (t f : Bool) => #[t,t,t,t,t,t,t,t,t,t,t,t,t,t,t,t,t,t,t,t,t,f,f,f]) true false
abbrev zA49 : Array Bool := (fun (t f : Bool) => #[t,t,t,t,t,t,t,t,t,t,t,t,t,t,t,t,t,t,t,t,t,t,f,f]) true false
abbrev zA50 : Array Bool := (fun (t f : Bool) => #[t,t,t,t,t,t,t,t,t,t,t,t,t,t,t,t,t,t,t,t,t,t,t,f]) true false
abbrev zA51 : Array Bool := (fun (t _ : Bool) => #[t,t,t,t,t,t,t,t,t,t,t,t,t,t,t,t,t,t,t,t,t,t,t,t]) true false
abbrev zA52 : Array Bool := (fun (_ f : Bool) => #[f,f,f,f,f,f,f,f,f,f,f,f,f,f,f,f,f,f,f]) true false
abbrev zA53 : Array Bool := (fun (t f : Bool) => #[t,f,f,f,f,f,f,f,f,f,f,f,f,f,f,f,f,f,f]) true false
abbrev zA54 : Array Bool := (fun (t f : Bool) => #[t,t,f,f,f,f,f,f,f,f,f,f,f,f,f,f,f,f,f]) true false
abbrev zA55 : Array Bool := (fun (t f : Bool) => #[t,t,t,f,f,f,f,f,f,f,f,f,f,f,f,f,f,f,f]) true false
abbrev zA56 : Array Bool := (fun (t f : Bool) => #[t,t,t,t,f,f,f,f,f,f,f,f,f,f,f,f,f,f,f]) true false
abbrev zA57 : Array Bool := (fun (t f : Bool) => #[t,t,t,t,t,f,f,f,f,f,f,f,f,f,f,f,f,f,f]) true false
abbrev zA58 : Array Bool := (fun (t f : Bool) => #[t,t,t,t,t,f,t,f,f,f,f,f,f,f,f,f,f,f,f]) true false
abbrev zA59 : Array Bool := (fun (t f : Bool) => #[t,t,t,t,t,f,t,f,t,f,f,f,f,f,f,f,f,f,f]) true false
abbrev zA60 : Array Bool := (fun (t f : Bool) => #[t,t,t,t,t,f,t,f,t,t,f,f,f,f,f,f,f,f,f]) true false
abbrev zA61 : Array Bool := (fun (t f : Bool) => #[t,t,t,t,t,f,t,f,t,t,t,f,f,f,f,f,f,f,f]) true false
abbrev zA62 : Array Bool := (fun (t f : Bool) => #[t,t,t,t,t,f,t,f,t,t,t,t,f,f,f,f,f,f,f]) true false
abbrev zA63 : Array Bool := (fun (t f : Bool) => #[t,t,t,t,t,f,t,f,t,t,t,t,f,t,f,f,f,f,f]) true false
abbrev zA64 : Array Bool := (fun (t f : Bool) => #[t,t,t,t,t,t,t,f,t,t,t,t,f,t,f,f,f,f,f]) true false
abbrev zA65 : Array Bool := (fun (t f : Bool) => #[t,t,t,t,t,t,t,t,t,t,t,t,f,t,f,f,f,f,f]) true false
abbrev zA66 : Array Bool := (fun (t f : Bool) => #[t,t,t,t,t,t,t,t,t,t,t,t,t,t,f,f,f,f,f]) true false
abbrev zA67 : Array Bool := (fun (t f : Bool) => #[t,t,t,t,t,t,t,t,t,t,t,t,t,t,t,f,f,f,f]) true false
abbrev zA68 : Array Bool := (fun (t f : Bool) => #[t,t,t,t,t,t,t,t,t,t,t,t,t,t,t,t,f,f,f]) true false
abbrev zA69 : Array Bool := (fun (t f : Bool) => #[t,t,t,t,t,t,t,t,t,t,t,t,t,t,t,t,t,f,f]) true false
abbrev zA70 : Array Bool := (fun (t f : Bool) => #[t,t,t,t,t,t,t,t,t,t,t,t,t,t,t,t,t,t,f]) true false
abbrev zA71 : Array Bool := (fun (t _ : Bool) => #[t,t,t,t,t,t,t,t,t,t,t,t,t,t,t,t,t,t,t]) true false
abbrev zA72 : Array Bool := (fun (_ f : Bool) => #[f,f,f,f,f,f,f,f,f,f]) true false
abbrev zA73 : Array Bool := (fun (t f : Bool) => #[t,f,f,f,f,f,f,f,f,f]) true false
abbrev zA74 : Array Bool := (fun (t f : Bool) => #[t,t,f,f,f,f,f,f,f,f]) true false
abbrev zA75 : Array Bool := (fun (t f : Bool) => #[t,t,t,f,f,f,f,f,f,f]) true false
abbrev zA76 : Array Bool := (fun (t f : Bool) => #[t,t,t,t,f,f,f,f,f,f]) true false
abbrev zA77 : Array Bool := (fun (t f : Bool) => #[t,t,t,t,t,f,f,f,f,f]) true false
abbrev zA78 : Array Bool := (fun (t f : Bool) => #[t,t,t,t,t,t,f,f,f,f]) true false
abbrev zA79 : Array Bool := (fun (t f : Bool) => #[t,t,t,t,t,t,t,f,f,f]) true false
abbrev zA80 : Array Bool := (fun (t f : Bool) => #[t,t,t,t,t,t,t,t,f,f]) true false
abbrev zA81 : Array Bool := (fun (t f : Bool) => #[t,t,t,t,t,t,t,t,t,f]) true false
abbrev zA82 : Array Bool := (fun (t _ : Bool) => #[t,t,t,t,t,t,t,t,t,t]) true false
abbrev zA83 : Array Bool := (fun (t f : Bool) => #[t,t,t,f,t,f,f,f,f,f]) true false
abbrev zA84 : Array Bool := (fun (t f : Bool) => #[t,t,t,f,t,t,f,f,f,f]) true false
abbrev zA85 : Array Bool := (fun (t f : Bool) => #[t,t,t,f,t,t,t,f,f,f]) true false
abbrev zA86 : Array Bool := (fun (_ f : Bool) => #[f,f,f,f,f,f,f,f,f,f,f,f,f,f,f,f,f,f]) true false
abbrev zA87 : Array Bool := (fun (t f : Bool) => #[t,f,f,f,f,f,f,f,f,f,f,f,f,f,f,f,f,f]) true false
abbrev zA88 : Array Bool := (fun (t f : Bool) => #[t,t,f,f,f,f,f,f,f,f,f,f,f,f,f,f,f,f]) true false
abbrev zA89 : Array Bool := (fun (t f : Bool) => #[t,t,t,f,f,f,f,f,f,f,f,f,f,f,f,f,f,f]) true false
abbrev zA90 : Array Bool := (fun (t f : Bool) => #[t,t,t,t,f,f,f,f,f,f,f,f,f,f,f,f,f,f]) true false
abbrev zA91 : Array Bool := (fun (t f : Bool) => #[t,t,t,t,f,f,t,f,f,f,f,f,f,f,f,f,f,f]) true false
abbrev zA92 : Array Bool := (fun (t f : Bool) => #[t,t,t,t,f,f,t,t,f,f,f,f,f,f,f,f,f,f]) true false
abbrev zA93 : Array Bool := (fun (t f : Bool) => #[t,t,t,t,f,f,t,t,t,f,f,f,f,f,f,f,f,f]) true false
abbrev zA94 : Array Bool := (fun (t f : Bool) => #[t,t,t,t,f,f,t,t,t,t,f,f,f,f,f,f,f,f]) true false
abbrev zA95 : Array Bool := (fun (t f : Bool) => #[t,t,t,t,f,f,t,t,t,t,t,f,f,f,f,f,f,f]) true false
abbrev zA96 : Array Bool := (fun (t f : Bool) => #[t,t,t,t,f,f,t,t,t,t,t,t,f,f,f,f,f,f]) true false
abbrev zA97 : Array Bool := (fun (t f : Bool) => #[t,t,t,t,t,f,t,t,t,t,t,t,f,f,f,f,f,f]) true false
abbrev zA98 : Array Bool := (fun (t f : Bool) => #[t,t,t,t,t,t,t,t,t,t,t,t,f,f,f,f,f,f]) true false
abbrev zA99 : Array Bool := (fun (t f : Bool) => #[t,t,t,t,t,t,t,t,t,t,t,t,t,f,f,f,f,f]) true false
abbrev zA100 : Array Bool := (fun (t f : Bool) => #[t,t,t,t,t,t,t,t,t,t,t,t,t,t,f,f,f,f]) true false
abbrev zA101 : Array Bool := (fun (t f : Bool) => #[t,t,t,t,t,t,t,t,t,t,t,t,t,t,t,f,f,f]) true false
abbrev zA102 : Array Bool := (fun (t f : Bool) => #[t,t,t,t,t,t,t,t,t,t,t,t,t,t,t,t,f,f]) true false
abbrev zA103 : Array Bool := (fun (t f : Bool) => #[t,t,t,t,t,t,t,t,t,t,t,t,t,t,t,t,t,f]) true false
abbrev zA104 : Array Bool := (fun (t _ : Bool) => #[t,t,t,t,t,t,t,t,t,t,t,t,t,t,t,t,t,t]) true false
abbrev zA105 : Array Bool := (fun (_ f : Bool) => #[f,f,f,f,f,f,f,f,f,f,f,f,f,f,f,f]) true false
abbrev zA106 : Array Bool := (fun (t f : Bool) => #[t,f,f,f,f,f,f,f,f,f,f,f,f,f,f,f]) true false
abbrev zA107 : Array Bool := (fun (t f : Bool) => #[t,t,f,f,f,f,f,f,f,f,f,f,f,f,f,f]) true false
abbrev zA108 : Array Bool := (fun (t f : Bool) => #[t,t,t,f,f,f,f,f,f,f,f,f,f,f,f,f]) true false
abbrev zA109 : Array Bool := (fun (t f : Bool) => #[t,t,t,t,f,f,f,f,f,f,f,f,f,f,f,f]) true false
abbrev zA110 : Array Bool := (fun (t f : Bool) => #[t,t,t,t,f,f,t,f,f,f,f,f,f,f,f,f]) true false
abbrev zA111 : Array Bool := (fun (t f : Bool) => #[t,t,t,t,f,f,t,t,f,f,f,f,f,f,f,f]) true false
abbrev zA112 : Array Bool := (fun (t f : Bool) => #[t,t,t,t,f,f,t,t,t,f,f,f,f,f,f,f]) true false
abbrev zA113 : Array Bool := (fun (t f : Bool) => #[t,t,t,t,t,f,t,t,t,f,f,f,f,f,f,f]) true false
abbrev zA114 : Array Bool := (fun (t f : Bool) => #[t,t,t,t,t,t,t,t,t,f,f,f,f,f,f,f]) true false
abbrev zA115 : Array Bool := (fun (t f : Bool) => #[t,t,t,t,t,t,t,t,t,t,f,f,f,f,f,f]) true false
abbrev zA116 : Array Bool := (fun (t f : Bool) => #[t,t,t,t,t,t,t,t,t,t,t,f,f,f,f,f]) true false
abbrev zA117 : Array Bool := (fun (t f : Bool) => #[t,t,t,t,t,t,t,t,t,t,t,t,f,f,f,f]) true false
abbrev zA118 : Array Bool := (fun (t f : Bool) => #[t,t,t,t,t,t,t,t,t,t,t,t,t,f,f,f]) true false
abbrev zA119 : Array Bool := (fun (t f : Bool) => #[t,t,t,t,t,t,t,t,t,t,t,t,t,t,f,f]) true false
abbrev zA120 : Array Bool := (fun (t f : Bool) => #[t,t,t,t,t,t,t,t,t,t,t,t,t,t,t,f]) true false
abbrev zA121 : Array Bool := (fun (t _ : Bool) => #[t,t,t,t,t,t,t,t,t,t,t,t,t,t,t,t]) true false
abbrev zA122 : Array Bool := (fun (_ f : Bool) => #[f,f,f,f,f,f,f,f,f,f,f,f,f,f,f,f,f,f,f,f,f,f,f,f,f,f]) true false
abbrev zA123 : Array Bool := (fun (t f : Bool) => #[t,f,f,f,f,f,f,f,f,f,f,f,f,f,f,f,f,f,f,f,f,f,f,f,f,f]) true false
abbrev zA124 : Array Bool := (fun (t f : Bool) => #[t,t,f,f,f,f,f,f,f,f,f,f,f,f,f,f,f,f,f,f,f,f,f,f,f,f]) true false
abbrev zA125 : Array Bool := (fun (t f : Bool) => #[t,t,t,f,f,f,f,f,f,f,f,f,f,f,f,f,f,f,f,f,f,f,f,f,f,f]) true false
abbrev zA126 : Array Bool := (fun (t f : Bool) => #[t,t,t,t,f,f,f,f,f,f,f,f,f,f,f,f,f,f,f,f,f,f,f,f,f,f]) true false
abbrev zA127 : Array Bool := (fun (t f : Bool) => #[t,t,t,t,f,t,f,f,f,f,f,f,f,f,f,f,f,f,f,f,f,f,f,f,f,f]) true false
abbrev zA128 : Array Bool := (fun (t f : Bool) => #[t,t,t,t,f,t,t,f,f,f,f,f,f,f,f,f,f,f,f,f,f,f,f,f,f,f]) true false
abbrev zA129 : Array Bool := (fun (t f : Bool) => #[t,t,t,t,f,t,t,t,f,f,f,f,f,f,f,f,f,f,f,f,f,f,f,f,f,f]) true false
abbrev zA130 : Array Bool := (fun (t f : Bool) => #[t,t,t,t,f,t,t,t,t,f,f,f,f,f,f,f,f,f,f,f,f,f,f,f,f,f]) true false
abbrev zA131 : Array Bool := (fun (t f : Bool) => #[t,t,t,t,f,t,t,t,t,f,f,f,t,f,f,f,f,f,f,f,f,f,f,f,f,f]) true false
abbrev zA132 : Array Bool := (fun (t f : Bool) => #[t,t,t,t,f,t,t,t,t,f,f,f,t,t,f,f,f,f,f,f,f,f,f,f,f,f]) true false
abbrev zA133 : Array Bool := (fun (t f : Bool) => #[t,t,t,t,f,t,t,t,t,f,f,f,t,t,t,f,f,f,f,f,f,f,f,f,f,f]) true false
abbrev zA134 : Array Bool := (fun (t f : Bool) => #[t,t,t,t,f,t,t,t,t,f,f,f,t,t,t,t,f,f,f,f,f,f,f,f,f,f]) true false
abbrev zA135 : Array Bool := (fun (t f : Bool) => #[t,t,t,t,f,t,t,t,t,f,f,f,t,t,t,t,f,t,f,f,f,f,f,f,f,f]) true false
abbrev zA136 : Array Bool := (fun (t f : Bool) => #[t,t,t,t,f,t,t,t,t,f,f,f,t,t,t,t,f,t,t,f,f,f,f,f,f,f]) true false
abbrev zA137 : Array Bool := (fun (t f : Bool) => #[t,t,t,t,f,t,t,t,t,f,f,f,t,t,t,t,f,t,t,t,f,f,f,f,f,f]) true false
abbrev zA138 : Array Bool := (fun (t f : Bool) => #[t,t,t,t,f,t,t,t,t,f,f,f,t,t,t,t,f,t,t,t,t,f,f,f,f,f]) true false
abbrev zA139 : Array Bool := (fun (t f : Bool) => #[t,t,t,t,t,t,t,t,t,f,f,f,t,t,t,t,f,t,t,t,t,f,f,f,f,f]) true false
abbrev zA140 : Array Bool := (fun (t f : Bool) => #[t,t,t,t,t,t,t,t,t,t,f,f,t,t,t,t,f,t,t,t,t,f,f,f,f,f]) true false
abbrev zA141 : Array Bool := (fun (t f : Bool) => #[t,t,t,t,t,t,t,t,t,t,t,f,t,t,t,t,f,t,t,t,t,f,f,f,f,f]) true false
abbrev zA142 : Array Bool := (fun (t f : Bool) => #[t,t,t,t,t,t,t,t,t,t,t,f,t,t,t,t,t,t,t,t,t,f,f,f,f,f]) true false
abbrev zA143 : Array Bool := (fun (t f : Bool) => #[t,t,t,t,t,t,t,t,t,t,t,f,t,t,t,t,t,t,t,t,t,t,f,f,f,f]) true false
abbrev zA144 : Array Bool := (fun (t f : Bool) => #[t,t,t,t,t,t,t,t,t,t,t,f,t,t,t,t,t,t,t,t,t,t,t,f,f,f]) true false
abbrev zA145 : Array Bool := (fun (t f : Bool) => #[t,t,t,t,t,t,t,t,t,t,t,t,t,t,t,t,t,t,t,t,t,t,t,f,f,f]) true false
abbrev zA146 : Array Bool := (fun (t f : Bool) => #[t,t,t,t,t,t,t,t,t,t,t,t,t,t,t,t,t,t,t,t,t,t,t,t,f,f]) true false
abbrev zA147 : Array Bool := (fun (t f : Bool) => #[t,t,t,t,t,t,t,t,t,t,t,t,t,t,t,t,t,t,t,t,t,t,t,t,t,f]) true false
abbrev zA148 : Array Bool := (fun (t _ : Bool) => #[t,t,t,t,t,t,t,t,t,t,t,t,t,t,t,t,t,t,t,t,t,t,t,t,t,t]) true false
theorem zy {q r p : Prop} (x : q) (y : r) (h : q → r → p := by intro H e_; first | (rw [e_]; with_reducible exact H) | (have H2_ := (Option.bind_some _ _).symm.trans H; rw [e_]; with_reducible exact H2_) | (have H2_ := (Option.bind_some _ _).symm.trans H; with_reducible exact H2_) | with_reducible exact H | (rw [e_]; exact H) | exact H) : p := h x y
end Go.Proofs.Ytpoiiaephcddoaa.F
section
namespace Go.Proofs.Ytpoiiaephcddoaa.F
open Go.RowKit Go.Proofs.YtpoiiaephcddoaaW.PrintWords Go.Proofs.YtpoiiaephcddoaaW.PrintLast Go.Proofs.YtpoiiaephcddoaaW.PrintMore
attribute [local go_sem] max2_int min2_int max_two min_two max_three min_three max_four min_four
set_option linter.unusedVariables false
set_option linter.unusedSimpArgs false
def errW : Option Int → Value
  | none => .nilIface
  | some c => .iface 0 (.int .i64 c)
theorem errW_none : errW none = .nilIface := rfl
theorem errW_some (c : Int) : errW (some c) = .iface 0 (.int .i64 c) := rfl
theorem info4 : (Try.prog.info? 4).map (fun i => (i.zero, i.size, i.bytes)) = some (some (.bool false), 1, 1) := by kernel_rfl
theorem info35 : (Try.prog.info? 35).map (fun i => (i.zero, i.size, i.bytes)) = some (some (.agg #[(.int .i64 0), (.int .i64 0)]), 2, 16) := by kernel_rfl
structure S35 where
  f0 : Int
  f1 : Int
def z35 : S35 := ⟨(0 : Int), (0 : Int)⟩
def k35 : Kd S35 := Kd.iso (Kd.pair (Kd.int .i64) (Kd.int .i64)) (fun x : S35 => (x.f0, x.f1))
theorem k35_open {w : World} {x : S35} {cs : List Value} (h : k35.K w x cs) : cs = [.int .i64 x.f0, .int .i64 x.f1] := by
  obtain ⟨_, _, rfl, rfl, rfl⟩ := h
  exact rfl
theorem k35_openM {w : World} {base : Nat} {ok : Nat → Prop} {x : S35} {cs : List Value} (h : k35.M w base ok x cs) : cs = [.int .i64 x.f0, .int .i64 x.f1] := by
  obtain ⟨_, _, rfl, rfl, rfl⟩ := h
  exact rfl
theorem k35_mkM (w : World) (base : Nat) (ok : Nat → Prop) (x : S35)  : k35.M w base ok x [.int .i64 x.f0, .int .i64 x.f1] := ⟨[.int .i64 x.f0], [.int .i64 x.f1], rfl, rfl, rfl⟩
def rd_T35 (xs : List S35) (i : Int) : S35 := xs.getD i.toNat z35
theorem at_T35 {w : World} {A : Option Addr} {n : Nat} {xs : List S35} (h : Kd.C k35 w A n xs) (i : Int) (h0 : 0 ≤ i) (h1 : i < n) : ∃ ad , A = some ad ∧ w.cell? (ad.add (i.toNat * 2)) = some (.int .i64 (rd_T35 xs i).f0) ∧ w.cell? ⟨(ad.add (i.toNat * 2)).block, (ad.add (i.toNat * 2)).off + 1, none⟩ = some (.int .i64 (rd_T35 xs i).f1) := by
  obtain ⟨ad, c, e, _, hK, hc0⟩ := Kd.C_get h z35 i h0 h1
  have hc : ∀ j u, c[j]? = some u → w.cell? (ad.add (i.toNat * 2 + j)) = some u := hc0
  obtain rfl := k35_open hK
  exact ⟨ad, e, hc 0 _ rfl, by rw [← add_field _ _ 1 (by omega)]; exact hc 1 _ rfl⟩
theorem eqA35 (d : Nat) (w : World) (x0 y0 : Int) (x1 y1 : Int) :
    (Op.equalIn (d + 2) 35 (.agg #[.int .i64 x0, .int .i64 x1]) (.agg #[.int .i64 y0, .int .i64 y1])).run Try.prog w = .ok (x0 == y0 && (x1 == y1)) w := by
  refine eqA_of Try.underlying35 (by kernel_rfl) ?_
  refine eqf_cons (by rfl) (by go_simp; rfl) (by go_simp; rfl) (by go_simp) ?_
  exact eqf_last (by rfl) (by go_simp; rfl) (by go_simp; rfl) (by go_simp)
def spec_l01In.f (a0 : Int) (a1 : Int) (a2 : Int) : Option (Bool) := if a0 ≥ a1 then (some (decide (a0 ≤ a2))) else (some false)
theorem spec_l01In.calls (a0 : Int) (a1 : Int) (a2 : Int) (r : Bool) (w : World) (h : spec_l01In.f a0 a1 a2 = some r) :
  Calls Try.prog 29 #[.int .i64 a0, .int .i64 a1, .int .i64 a2] w fun e w' => e = .returned (.bool r) ∧ Drawn0 w w' := by
 have H : (if a0 ≥ a1 then (some (decide (a0 ≤ a2))) else (some false)) = some r := h
 clear h
 by_cases c4 : a0 ≥ a1
 ·rw [if_pos c4] at H
  have c4b0 : decide (a1 ≤ a0) = true := decide_eq_true c4
  clear c4
  obtain rfl := Option.some.inj H
  go_enter Try.func29, Try.ntmps29
  go_wp2
  go_ret
  exact ⟨by first | rfl | (simp; done) | (simp [*]; done), by repeat (first | exact Drawn0.refl _ | apply Drawn0.step)⟩
 rw [if_neg c4] at H
 have c4b0 : decide (a1 ≤ a0) = false := decide_eq_false c4
 clear c4
 obtain rfl := Option.some.inj H
 go_enter Try.func29, Try.ntmps29
 go_wp2
 go_ret
 exact ⟨by first | rfl | (simp; done) | (simp [*]; done), by repeat (first | exact Drawn0.refl _ | apply Drawn0.step)⟩
def spec_l02Cell.f (a0_0 : Int) (a0_1 : Int) : Option (Bool) := (spec_l01In.f a0_0 (-100) 100).bind fun t102 => (if t102 = true then ((spec_l01In.f a0_1 (-100) 100).bind fun t103 => (some t103)) else (some false))
theorem spec_l02Cell.calls (a0_0 : Int) (a0_1 : Int) (r : Bool) (w : World) (h : spec_l02Cell.f a0_0 a0_1 = some r) :
  Calls Try.prog 27 #[.agg #[.int .i64 a0_0, .int .i64 a0_1]] w fun e w' => e = .returned (.bool r) ∧ Below w.heap.size w w' := by
 have hu35 := Try.underlying35
 have HB := aM (Below.refl w.heap.size w)
 have H : ((spec_l01In.f a0_0 (-100) 100).bind fun t102 => (if t102 = true then ((spec_l01In.f a0_1 (-100) 100).bind fun t103 => (some t103)) else (some false))) = some r := h
 clear h
 replace H := Option.bind_eq_some_iff.mp H
 obtain ⟨t102, A20, H⟩ := H
 replace H : (if t102 = true then ((spec_l01In.f a0_1 (-100) 100).bind fun t103 => (some t103)) else (some false)) = some r := H
 have A2 := aM A20
 clear A20
 by_cases c3 : t102 = true
 rotate_left
 ·replace c3 := Bool.eq_false_iff.mpr c3
  subst c3
  have H1 : (some false) = some r := by rw [if_neg (show ¬ (false = true) by decide)] at H; exact H
  clear H
  have H := H1
  clear H1
  obtain rfl := Option.some.inj H
  go_enter Try.func27, Try.ntmps27
  go_wp2_with (first | ((with_reducible refine gate_dst (N := 1) rfl ?_); refine zx 1 #[.int .i64 a0_0, .int .i64 a0_1] 35 ?_; intro gb101 hg w7 hbox hb; have n0_ := aM (below_step zb hb); have n1_ := aM (hbox); have n2_ := aM ((ze : w.heap.size ≤ gb101)); have n3_ := aM ((ze : w.heap.size ≤ gb101)); clear HB; have HB := n0_; have BK101 := n1_; have GW101 := n2_; have GE101 := n3_; clear n0_ n1_ n2_ n3_ hb hbox hg; have hcz8_0 : w7.cell? ⟨gb101, 0, none⟩ = some (.int .i64 a0_0) := (blk_cell BK101.out 0).trans rfl; have hcz8_1 : w7.cell? ⟨gb101, 1, none⟩ = some (.int .i64 a0_1) := (blk_cell BK101.out 1).trans rfl; have hfz8_0 := blk_frozen BK101.out 0; have hfz8_1 := blk_frozen BK101.out 1) | ((with_reducible refine gate_callee (f := 29) rfl ?_); refine goesL_ (some 5) rfl rfl Try.func29 (by kernel_rfl) rfl #[.int .i64 a0_0, .int .i64 (-100), .int .i64 100] rfl zm ?_; (with_reducible refine (spec_l01In.calls a0_0 (-100) 100 false _ A2.out).mono ?_); rintro e w' ⟨rfl, ⟨nd, rfl⟩⟩; refine ⟨_, rfl, ?_⟩))
  go_ret
  exact ⟨zw, zs GE101.out⟩
 subst c3
 have H1 : ((spec_l01In.f a0_1 (-100) 100).bind fun t103 => (some t103)) = some r := by rw [if_pos rfl] at H; exact H
 clear H
 have H := H1
 clear H1
 replace H := Option.bind_eq_some_iff.mp H
 obtain ⟨t103, A40, H⟩ := H
 replace H : (some t103) = some r := H
 have A4 := aM A40
 clear A40
 obtain rfl := Option.some.inj H
 go_enter Try.func27, Try.ntmps27
 go_wp2_with (first | ((with_reducible refine gate_dst (N := 1) rfl ?_); refine zx 1 #[.int .i64 a0_0, .int .i64 a0_1] 35 ?_; intro gb101 hg w5 hbox hb; have n0_ := aM (below_step zb hb); have n1_ := aM (hbox); have n2_ := aM ((ze : w.heap.size ≤ gb101)); have n3_ := aM ((ze : w.heap.size ≤ gb101)); clear HB; have HB := n0_; have BK101 := n1_; have GW101 := n2_; have GE101 := n3_; clear n0_ n1_ n2_ n3_ hb hbox hg; have hcz6_0 : w5.cell? ⟨gb101, 0, none⟩ = some (.int .i64 a0_0) := (blk_cell BK101.out 0).trans rfl; have hcz6_1 : w5.cell? ⟨gb101, 1, none⟩ = some (.int .i64 a0_1) := (blk_cell BK101.out 1).trans rfl; have hfz6_0 := blk_frozen BK101.out 0; have hfz6_1 := blk_frozen BK101.out 1) | ((with_reducible refine gate_callee (f := 29) rfl ?_); refine goesL_ (some 5) rfl rfl Try.func29 (by kernel_rfl) rfl #[.int .i64 a0_0, .int .i64 (-100), .int .i64 100] rfl zm ?_; (with_reducible refine (spec_l01In.calls a0_0 (-100) 100 true _ A2.out).mono ?_); rintro e w' ⟨rfl, ⟨nd, rfl⟩⟩; refine ⟨_, rfl, ?_⟩) | (go_at_call 29; (with_reducible refine (spec_l01In.calls a0_1 (-100) 100 t103 _ A4.out).mono ?_); rintro e w' ⟨rfl, ⟨nd, rfl⟩⟩))
 go_ret
 exact ⟨zw, zs GE101.out⟩
def spec_l02Less.f (a0_0 : Int) (a0_1 : Int) (a1_0 : Int) (a1_1 : Int) : Option (Bool) := if a0_1 < a1_1 then (some true) else (if a0_1 = a1_1 then (some (decide (a0_0 < a1_0))) else (some false))
theorem spec_l02Less.calls (a0_0 : Int) (a0_1 : Int) (a1_0 : Int) (a1_1 : Int) (r : Bool) (w : World) (h : spec_l02Less.f a0_0 a0_1 a1_0 a1_1 = some r) :
  Calls Try.prog 28 #[.agg #[.int .i64 a0_0, .int .i64 a0_1], .agg #[.int .i64 a1_0, .int .i64 a1_1]] w fun e w' => e = .returned (.bool r) ∧ Below w.heap.size w w' := by
 have hu35 := Try.underlying35
 have HB := aM (Below.refl w.heap.size w)
 have H : (if a0_1 < a1_1 then (some true) else (if a0_1 = a1_1 then (some (decide (a0_0 < a1_0))) else (some false))) = some r := h
 clear h
 by_cases c3 : a0_1 < a1_1
 ·rw [if_pos c3] at H
  have c3b0 : decide (a0_1 < a1_1) = true := decide_eq_true c3
  clear c3
  obtain rfl := Option.some.inj H
  go_enter Try.func28, Try.ntmps28
  go_wp2_with (first | ((with_reducible refine gate_dst (N := 2) rfl ?_); refine zx 2 #[.int .i64 a0_0, .int .i64 a0_1] 35 ?_; intro gb104 hg w4 hbox hb; have n0_ := aM (below_step zb hb); have n1_ := aM (hbox); have n2_ := aM ((ze : w.heap.size ≤ gb104)); have n3_ := aM ((ze : w.heap.size ≤ gb104)); clear HB; have HB := n0_; have BK104 := n1_; have GW104 := n2_; have GE104 := n3_; clear n0_ n1_ n2_ n3_; clear hb hbox hg) | ((with_reducible refine gate_dst (N := 3) rfl ?_); refine zx 3 #[.int .i64 a1_0, .int .i64 a1_1] 35 ?_; intro gb105 hg w5 hbox hb; have n0_ := aM (blk_below (g := gb104) (o := .cells #[.int .i64 a0_0, .int .i64 a0_1] 35 (0, 0)) (mB_ BK104.out) hb); have n1_ := aM (below_step (zs GE104.out) hb); have n2_ := aM (hbox); have n3_ := aM ((zf GE104.out : w.heap.size ≤ gb105)); have n4_ := aM ((zf GE104.out : w.heap.size ≤ gb105)); have n5_ := aM ((zl BK104.out : gb104 ≠ gb105)); have n6_ := aM ((zn BK104.out : gb105 ≠ gb104)); clear BK104 HB; have BK104 := n0_; have HB := n1_; have BK105 := n2_; have GW105 := n3_; have GE105 := n4_; have NB104_105 := n5_; have NB105_104 := n6_; clear n0_ n1_ n2_ n3_ n4_ n5_ n6_ hb hbox hg; have hnb6 := NB104_105.out; have hnc6 := NB105_104.out; have hcz7_0 : w5.cell? ⟨gb104, 0, none⟩ = some (.int .i64 a0_0) := (blk_cell BK104.out 0).trans rfl; have hcz7_1 : w5.cell? ⟨gb104, 1, none⟩ = some (.int .i64 a0_1) := (blk_cell BK104.out 1).trans rfl; have hfz7_0 := blk_frozen BK104.out 0; have hfz7_1 := blk_frozen BK104.out 1; have hcz8_0 : w5.cell? ⟨gb105, 0, none⟩ = some (.int .i64 a1_0) := (blk_cell BK105.out 0).trans rfl; have hcz8_1 : w5.cell? ⟨gb105, 1, none⟩ = some (.int .i64 a1_1) := (blk_cell BK105.out 1).trans rfl; have hfz8_0 := blk_frozen BK105.out 0; have hfz8_1 := blk_frozen BK105.out 1))
  go_ret
  exact ⟨zw, zt GE104.out GE105.out⟩
 rw [if_neg c3] at H
 have c3b0 : decide (a0_1 < a1_1) = false := decide_eq_false c3
 clear c3
 by_cases c9 : a0_1 = a1_1
 rotate_left
 ·rw [if_neg c9] at H
  have c9b0 : (a0_1 == a1_1) = false := beq_eq_false_iff_ne.mpr c9
  have c9b1 : (a0_1 != a1_1) = true := bne_iff_ne.mpr c9
  obtain rfl := Option.some.inj H
  go_enter Try.func28, Try.ntmps28
  go_wp2_with (first | ((with_reducible refine gate_dst (N := 2) rfl ?_); refine zx 2 #[.int .i64 a0_0, .int .i64 a0_1] 35 ?_; intro gb104 hg w15 hbox hb; have n0_ := aM (below_step zb hb); have n1_ := aM (hbox); have n2_ := aM ((ze : w.heap.size ≤ gb104)); have n3_ := aM ((ze : w.heap.size ≤ gb104)); clear HB; have HB := n0_; have BK104 := n1_; have GW104 := n2_; have GE104 := n3_; clear n0_ n1_ n2_ n3_; clear hb hbox hg) | ((with_reducible refine gate_dst (N := 3) rfl ?_); refine zx 3 #[.int .i64 a1_0, .int .i64 a1_1] 35 ?_; intro gb105 hg w16 hbox hb; have n0_ := aM (blk_below (g := gb104) (o := .cells #[.int .i64 a0_0, .int .i64 a0_1] 35 (0, 0)) (mB_ BK104.out) hb); have n1_ := aM (below_step (zs GE104.out) hb); have n2_ := aM (hbox); have n3_ := aM ((zf GE104.out : w.heap.size ≤ gb105)); have n4_ := aM ((zf GE104.out : w.heap.size ≤ gb105)); have n5_ := aM ((zl BK104.out : gb104 ≠ gb105)); have n6_ := aM ((zn BK104.out : gb105 ≠ gb104)); clear BK104 HB; have BK104 := n0_; have HB := n1_; have BK105 := n2_; have GW105 := n3_; have GE105 := n4_; have NB104_105 := n5_; have NB105_104 := n6_; clear n0_ n1_ n2_ n3_ n4_ n5_ n6_ hb hbox hg; have hnb17 := NB104_105.out; have hnc17 := NB105_104.out; have hcz18_0 : w16.cell? ⟨gb104, 0, none⟩ = some (.int .i64 a0_0) := (blk_cell BK104.out 0).trans rfl; have hcz18_1 : w16.cell? ⟨gb104, 1, none⟩ = some (.int .i64 a0_1) := (blk_cell BK104.out 1).trans rfl; have hfz18_0 := blk_frozen BK104.out 0; have hfz18_1 := blk_frozen BK104.out 1; have hcz19_0 : w16.cell? ⟨gb105, 0, none⟩ = some (.int .i64 a1_0) := (blk_cell BK105.out 0).trans rfl; have hcz19_1 : w16.cell? ⟨gb105, 1, none⟩ = some (.int .i64 a1_1) := (blk_cell BK105.out 1).trans rfl; have hfz19_0 := blk_frozen BK105.out 0; have hfz19_1 := blk_frozen BK105.out 1))
  go_ret
  exact ⟨zw, zt GE104.out GE105.out⟩
 rw [if_pos c9] at H
 have c9b0 : (a0_1 == a1_1) = true := beq_iff_eq.mpr c9
 have c9b1 : (a0_1 != a1_1) = false := bne_eq_false_iff_eq.mpr c9
 clear c9
 obtain rfl := Option.some.inj H
 go_enter Try.func28, Try.ntmps28
 go_wp2_with (first | ((with_reducible refine gate_dst (N := 2) rfl ?_); refine zx 2 #[.int .i64 a0_0, .int .i64 a0_1] 35 ?_; intro gb104 hg w10 hbox hb; have n0_ := aM (below_step zb hb); have n1_ := aM (hbox); have n2_ := aM ((ze : w.heap.size ≤ gb104)); have n3_ := aM ((ze : w.heap.size ≤ gb104)); clear HB; have HB := n0_; have BK104 := n1_; have GW104 := n2_; have GE104 := n3_; clear n0_ n1_ n2_ n3_; clear hb hbox hg) | ((with_reducible refine gate_dst (N := 3) rfl ?_); refine zx 3 #[.int .i64 a1_0, .int .i64 a1_1] 35 ?_; intro gb105 hg w11 hbox hb; have n0_ := aM (blk_below (g := gb104) (o := .cells #[.int .i64 a0_0, .int .i64 a0_1] 35 (0, 0)) (mB_ BK104.out) hb); have n1_ := aM (below_step (zs GE104.out) hb); have n2_ := aM (hbox); have n3_ := aM ((zf GE104.out : w.heap.size ≤ gb105)); have n4_ := aM ((zf GE104.out : w.heap.size ≤ gb105)); have n5_ := aM ((zl BK104.out : gb104 ≠ gb105)); have n6_ := aM ((zn BK104.out : gb105 ≠ gb104)); clear BK104 HB; have BK104 := n0_; have HB := n1_; have BK105 := n2_; have GW105 := n3_; have GE105 := n4_; have NB104_105 := n5_; have NB105_104 := n6_; clear n0_ n1_ n2_ n3_ n4_ n5_ n6_ hb hbox hg; have hnb12 := NB104_105.out; have hnc12 := NB105_104.out; have hcz13_0 : w11.cell? ⟨gb104, 0, none⟩ = some (.int .i64 a0_0) := (blk_cell BK104.out 0).trans rfl; have hcz13_1 : w11.cell? ⟨gb104, 1, none⟩ = some (.int .i64 a0_1) := (blk_cell BK104.out 1).trans rfl; have hfz13_0 := blk_frozen BK104.out 0; have hfz13_1 := blk_frozen BK104.out 1; have hcz14_0 : w11.cell? ⟨gb105, 0, none⟩ = some (.int .i64 a1_0) := (blk_cell BK105.out 0).trans rfl; have hcz14_1 : w11.cell? ⟨gb105, 1, none⟩ = some (.int .i64 a1_1) := (blk_cell BK105.out 1).trans rfl; have hfz14_0 := blk_frozen BK105.out 0; have hfz14_1 := blk_frozen BK105.out 1))
 go_ret
 exact ⟨zw, zt GE104.out GE105.out⟩
def spec_IsShape.l0 : Nat → List (S35) → Int → Option (Bool)
 | 0, _, _ => none
 | k + 1, x0, x3 => if x3 < (x0.length : Int) then (if 0 ≤ x3 then ((spec_l02Cell.f ((rd_T35 x0 x3).f0) ((rd_T35 x0 x3).f1)).bind fun t108 => (if t108 = true then (if x3 > 0 then (if 0 ≤ (wrap64 (x3 - 1)) then (if (wrap64 (x3 - 1)) < (x0.length : Int) then ((spec_l02Less.f ((rd_T35 x0 (wrap64 (x3 - 1))).f0) ((rd_T35 x0 (wrap64 (x3 - 1))).f1) ((rd_T35 x0 x3).f0) ((rd_T35 x0 x3).f1)).bind fun t111 => (if t111 = true then (spec_IsShape.l0 k x0 (wrap64 (x3 + 1))) else (some false))) else (none)) else (none)) else (spec_IsShape.l0 k x0 (wrap64 (x3 + 1)))) else (some false))) else (none)) else ((spec_l01In.f (x0.length : Int) 1 40).bind fun t106 => (some t106))
def spec_IsShape.f (k : Nat) (l0 : List (S35)) : Option (Bool) := spec_IsShape.l0 k l0 0
def spec_IsShape.T4 : Bool × List (List Nat × List Nat) := (true, [([], []), ([], []), ([0, 1], [0, 1]), ([2], [2]), ([3], [3]), ([4], [4]), ([5, 4], [5]), ([6], [6]), ([7, 6], [6, 7]), ([8, 6, 6], [6, 8]), ([9], [9]), ([9], [9]), ([11, 9], [9, 11]), ([10, 12, 9], [9, 10, 12]), ([13, 9], [9, 13]), ([9], [9]), ([9], [9]), ([15, 16, 9], [9, 15, 16]), ([17, 9], [9, 17]), ([14, 18, 9, 9], [9, 14, 18]), ([19, 9], [9, 19]), ([9, 20, 6], [6, 9, 20]), ([6, 21], [6, 21])])
def spec_IsShape.B4 : List Nat := [0, 0, 3, 7, 15, 31, 63, 127, 255, 511, 1023, 1023, 3071, 8191, 16383, 1023, 1023, 99327, 230399, 524287, 1048575, 2097151, 4194303]
theorem spec_IsShape.tab4 : rtab .any (opsOf Try.f16 4) = spec_IsShape.T4 := by kernel_rfl
theorem spec_IsShape.bits4 : waitsOk spec_IsShape.T4.2 spec_IsShape.B4 = true := by kernel_rfl
theorem spec_IsShape.calls (k : Nat) (A0 : Option Addr) (c0 : Nat) (l0 : List (S35)) (r : Bool) (w : World) (hr0 : Kd.C k35 w A0 l0.length l0) (hc0 : l0.length ≤ c0) (h : spec_IsShape.f k l0 = some r) :
  Calls Try.prog 16 #[.slice A0 l0.length c0] w fun e w' => e = .returned (.bool r) ∧ Below w.heap.size w w' := by
 have hu35 := Try.underlying35
 have HR0 := aM hr0
 have HC0 := aM hc0
 clear hr0 hc0
 have HB := aM (Below.refl w.heap.size w)
 have H : (spec_IsShape.l0 k l0 0) = some r := h
 clear h
 have H' := aM H
 clear H
 go_enter Try.func16, Try.ntmps16
 go_wp2
 go_loopg [3] k (fun kq v3 w' => ∃ (x3_1 : Int), v3 = .int .i64 x3_1 ∧ Aside0 (spec_IsShape.l0 kq l0 x3_1 = some r) ∧ Aside0 (kq ≤ k) ∧ Aside0 (Below w.heap.size w w'))
 case atStart => exact ⟨(0), zr, H', ⟨Nat.le_refl _⟩, ⟨zb⟩⟩
 case round =>
  clear H'
  try clear c1
  obtain ⟨x3_1, rfl, HA, HK1, HB⟩ := hrel
  cases gk with
  | zero => exact absurd HA.out (by simp [spec_IsShape.l0])
  | succ k1 =>
   have H := HA.out
   clear HA
   simp only [spec_IsShape.l0] at H
   by_cases c2 : x3_1 < (l0.length : Int)
   rotate_left
   ·rw [if_neg c2] at H
    have c2b0 : decide (x3_1 < (l0.length : Int)) = false := decide_eq_false c2
    clear c2
    replace H := Option.bind_eq_some_iff.mp H
    obtain ⟨t106, A220, H⟩ := H
    replace H : (some t106) = some r := H
    have A22 := aM A220
    clear A220
    obtain rfl := Option.some.inj H
    go_wp2_with (first | ((with_reducible refine gate_callee (f := 29) rfl ?_); refine goesL_ (some 35) rfl rfl Try.func29 (by kernel_rfl) rfl #[.int .i64 (l0.length : Int), .int .i64 1, .int .i64 40] rfl zm ?_; (with_reducible refine (spec_l01In.calls (l0.length : Int) 1 40 t106 _ A22.out).mono ?_); rintro e w' ⟨rfl, ⟨nd, rfl⟩⟩; refine ⟨_, rfl, ?_⟩))
    go_ret
    exact ⟨zw, zb⟩
   rw [if_pos c2] at H
   have c2b0 : decide (x3_1 < (l0.length : Int)) = true := decide_eq_true c2
   clear c2
   by_cases c3 : 0 ≤ x3_1
   rotate_left
   ·rw [if_neg c3] at H
    exact absurd H (by simp)
   rw [if_pos c3] at H
   have c3b0 : decide (0 ≤ x3_1) = true := decide_eq_true c3
   clear c3
   replace H := Option.bind_eq_some_iff.mp H
   obtain ⟨t108, A40, H⟩ := H
   replace H : (if t108 = true then (if x3_1 > 0 then (if 0 ≤ (wrap64 (x3_1 - 1)) then (if (wrap64 (x3_1 - 1)) < (l0.length : Int) then ((spec_l02Less.f ((rd_T35 l0 (wrap64 (x3_1 - 1))).f0) ((rd_T35 l0 (wrap64 (x3_1 - 1))).f1) ((rd_T35 l0 x3_1).f0) ((rd_T35 l0 x3_1).f1)).bind fun t111 => (if t111 = true then (spec_IsShape.l0 k1 l0 (wrap64 (x3_1 + 1))) else (some false))) else (none)) else (none)) else (spec_IsShape.l0 k1 l0 (wrap64 (x3_1 + 1)))) else (some false)) = some r := H
   have A4 := aM A40
   clear A40
   by_cases c5 : t108 = true
   rotate_left
   ·replace c5 := Bool.eq_false_iff.mpr c5
    subst c5
    have H1 : (some false) = some r := by rw [if_neg (show ¬ (false = true) by decide)] at H; exact H
    clear H
    have H := H1
    clear H1
    obtain rfl := Option.some.inj H
    try go_wp2
    have n0_ := aM (below_drew1 HB.out)
    clear HB
    have HB := n0_
    clear n0_
    have p107 : 0 ≤ (x3_1 : Int) := of_decide_eq_true za
    have q107 : x3_1 < (l0.length : Int) := of_decide_eq_true za
    obtain ⟨ad107, e107, hx107_0, hx107_1⟩ := at_T35 HR0.out x3_1 p107 q107
    have hw107_1 := hx107_1
    have hw107_0 := hx107_0
    cases e107
    replace hx107_0 := zk HB.out hx107_0
    replace hx107_1 := zk HB.out hx107_1
    replace p107 := eq_true p107
    replace q107 := eq_true q107
    refine start_ (n := 23) (S := fun w' => w'.cell? (ad107.add ((x3_1).toNat * 2)) = some (.int .i64 ((rd_T35 l0 x3_1).f0)) ∧ w'.cell? ⟨(ad107.add ((x3_1).toNat * 2)).block, (ad107.add ((x3_1).toNat * 2)).off + 1, none⟩ = some (.int .i64 ((rd_T35 l0 x3_1).f1))) (ds := []) zA0 (by kernel_rfl) rfl rfl ⟨(zk HB.out hw107_0), (zk HB.out hw107_1)⟩ (fun hHeld => ?_); refine with_tabW spec_IsShape.tab4 spec_IsShape.bits4 (fun HT_ HW_ => ?_)
    generalize wr.drew = w20 at HB hx107_0 hx107_1 hHeld ⊢
    refine zp 0 (some 10) ?_ zA1 rfl rfl (Or.inl ⟨by rfl, ?_⟩) ?_ ?_ ?_
    rotate_left
    ·intro w'
     go_simp
     with_reducible rfl
    rotate_left
    ·simp only [Act.put, xA, xB, xC, i64_w, i32_w]
     rfl
    refine zp 1 (some 11) ?_ zA2 rfl rfl (Or.inl ⟨by rfl, ?_⟩) ?_ ?_ ?_
    rotate_left
    ·intro w'
     go_simp
     with_reducible rfl
    rotate_left
    ·simp only [Act.put, xA, xB, xC, i64_w, i32_w]
     rfl
    refine zp 2 (some 12) ?_ zA3 rfl rfl (Or.inl ⟨by rfl, ?_⟩) ?_ ?_ ?_
    rotate_left
    ·intro w'
     go_simp
     with_reducible rfl
    rotate_left
    ·simp only [Act.put, xA, xB, xC, i64_w, i32_w]
     rfl
    refine zu 3 (some 13) ?_ zA4 rfl rfl (Or.inl ⟨by rfl, ?_⟩) hHeld ?_ ?_ ?_
    rotate_left
    ·rintro w' ⟨s0, s1⟩
     go_simp
     with_reducible rfl
    rotate_left
    ·simp only [Act.put, xA, xB, xC, i64_w, i32_w]
     rfl
    refine one_ (i := 4) (N := some 14) zA5 rfl rfl (one_of HT_.out (by kernel_rfl)) (by decide) (fun K hK => ?_)
    refine goes_ Try.func27 (by kernel_rfl) rfl #[.agg #[.int .i64 ((rd_T35 l0 x3_1).f0), .int .i64 ((rd_T35 l0 x3_1).f1)]] (by rfl) rfl rfl zm ?_
    with_reducible refine (spec_l02Cell.calls ((rd_T35 l0 x3_1).f0) ((rd_T35 l0 x3_1).f1) false _ A4.out).mono ?_
    rintro e w21 ⟨rfl, hb⟩
    refine ⟨_, rfl, ?_⟩
    have n0_ := aM (below_step zb hb)
    clear HB
    have HB := n0_
    clear n0_
    (try clear hb)
    (try clear hb2)
    (try clear hk)
    (try clear hi)
    refine hK.out _ _ ⟨(zk HB.out hw107_0), (zk HB.out hw107_1)⟩ (fun hHeld => ?_)
    clear hK K
    refine norm_ (a' := ?_) ?_ ?_
    rotate_left
    ·show Act.put _ (some 14) _ = _
     simp only [Act.put, xA, xB, xC, i64_w, i32_w]
     rfl
    refine zp 5 (some 15) ?_ zA6 rfl rfl (Or.inl ⟨by rfl, ?_⟩) ?_ ?_ ?_
    rotate_left
    ·intro w'
     go_simp
     with_reducible rfl
    rotate_left
    ·simp only [Act.put, xA, xB, xC, i64_w, i32_w]
     rfl
    refine zp 6 (some 16) ?_ zA7 rfl rfl (Or.inl ⟨by rfl, ?_⟩) ?_ ?_ ?_
    rotate_left
    ·intro w'
     go_simp
     with_reducible rfl
    rotate_left
    ·simp only [Act.put, xA, xB, xC, i64_w, i32_w]
     rfl
    refine zp 7 (some 17) undef zA8 rfl rfl (Or.inr ⟨by rfl, rfl⟩) ?_ ?_ ?_
    rotate_left
    ·simp only [Act.put, xA, xB, xC, i64_w, i32_w]
     rfl
    refine zp 8 (some 18) undef zA9 rfl rfl (Or.inr ⟨by rfl, rfl⟩) ?_ ?_ ?_
    rotate_left
    ·simp only [Act.put, xA, xB, xC, i64_w, i32_w]
     rfl
    refine zp 9 (some 19) undef zA10 rfl rfl (Or.inr ⟨by rfl, rfl⟩) ?_ ?_ ?_
    rotate_left
    ·simp only [Act.put, xA, xB, xC, i64_w, i32_w]
     rfl
    refine zp 10 (some 20) undef zA11 rfl rfl (Or.inr ⟨by rfl, rfl⟩) ?_ ?_ ?_
    rotate_left
    ·simp only [Act.put, xA, xB, xC, i64_w, i32_w]
     rfl
    refine zp 11 (some 21) undef zA12 rfl rfl (Or.inr ⟨by rfl, rfl⟩) ?_ ?_ ?_
    rotate_left
    ·simp only [Act.put, xA, xB, xC, i64_w, i32_w]
     rfl
    refine zp 12 (some 22) undef zA13 rfl rfl (Or.inr ⟨by rfl, rfl⟩) ?_ ?_ ?_
    rotate_left
    ·simp only [Act.put, xA, xB, xC, i64_w, i32_w]
     rfl
    refine zp 13 (some 23) undef zA14 rfl rfl (Or.inr ⟨by rfl, rfl⟩) ?_ ?_ ?_
    rotate_left
    ·simp only [Act.put, xA, xB, xC, i64_w, i32_w]
     rfl
    refine zp 14 (some 24) undef zA15 rfl rfl (Or.inr ⟨by rfl, rfl⟩) ?_ ?_ ?_
    rotate_left
    ·simp only [Act.put, xA, xB, xC, i64_w, i32_w]
     rfl
    refine zp 15 (some 25) undef zA16 rfl rfl (Or.inr ⟨by rfl, rfl⟩) ?_ ?_ ?_
    rotate_left
    ·simp only [Act.put, xA, xB, xC, i64_w, i32_w]
     rfl
    refine zp 16 (some 26) undef zA17 rfl rfl (Or.inr ⟨by rfl, rfl⟩) ?_ ?_ ?_
    rotate_left
    ·simp only [Act.put, xA, xB, xC, i64_w, i32_w]
     rfl
    refine zp 17 (some 27) undef zA18 rfl rfl (Or.inr ⟨by rfl, rfl⟩) ?_ ?_ ?_
    rotate_left
    ·simp only [Act.put, xA, xB, xC, i64_w, i32_w]
     rfl
    refine zp 18 (some 28) undef zA19 rfl rfl (Or.inr ⟨by rfl, rfl⟩) ?_ ?_ ?_
    rotate_left
    ·simp only [Act.put, xA, xB, xC, i64_w, i32_w]
     rfl
    refine zp 19 (some 29) undef zA20 rfl rfl (Or.inr ⟨by rfl, rfl⟩) ?_ ?_ ?_
    rotate_left
    ·simp only [Act.put, xA, xB, xC, i64_w, i32_w]
     rfl
    refine zp 20 (some 30) undef zA21 rfl rfl (Or.inr ⟨by rfl, rfl⟩) ?_ ?_ ?_
    rotate_left
    ·simp only [Act.put, xA, xB, xC, i64_w, i32_w]
     rfl
    refine zp 21 (some 31) undef zA22 rfl rfl (Or.inr ⟨by rfl, rfl⟩) ?_ ?_ ?_
    rotate_left
    ·simp only [Act.put, xA, xB, xC, i64_w, i32_w]
     rfl
    refine zp 22 (some 32) ?_ zA23 rfl rfl (Or.inl ⟨by rfl, ?_⟩) ?_ ?_ ?_
    rotate_left
    ·intro w'
     go_simp
     with_reducible rfl
    rotate_left
    ·simp only [Act.put, xA, xB, xC, i64_w, i32_w]
     rfl
    refine done_ (done_of HT_.out (by kernel_rfl)) ?_
    try go_wp2
    go_ret
    exact ⟨zw, zb⟩
   subst c5
   have H1 : (if x3_1 > 0 then (if 0 ≤ (wrap64 (x3_1 - 1)) then (if (wrap64 (x3_1 - 1)) < (l0.length : Int) then ((spec_l02Less.f ((rd_T35 l0 (wrap64 (x3_1 - 1))).f0) ((rd_T35 l0 (wrap64 (x3_1 - 1))).f1) ((rd_T35 l0 x3_1).f0) ((rd_T35 l0 x3_1).f1)).bind fun t111 => (if t111 = true then (spec_IsShape.l0 k1 l0 (wrap64 (x3_1 + 1))) else (some false))) else (none)) else (none)) else (spec_IsShape.l0 k1 l0 (wrap64 (x3_1 + 1)))) = some r := by rw [if_pos rfl] at H; exact H
   clear H
   have H := H1
   clear H1
   by_cases c6 : x3_1 > 0
   rotate_left
   ·rw [if_neg c6] at H
    have c6b0 : decide (0 < x3_1) = false := decide_eq_false c6
    clear c6
    have H' := aM H
    clear H
    try go_wp2
    have n0_ := aM (below_drew1 HB.out)
    clear HB
    have HB := n0_
    clear n0_
    have p107 : 0 ≤ (x3_1 : Int) := of_decide_eq_true za
    have q107 : x3_1 < (l0.length : Int) := of_decide_eq_true za
    obtain ⟨ad107, e107, hx107_0, hx107_1⟩ := at_T35 HR0.out x3_1 p107 q107
    have hw107_1 := hx107_1
    have hw107_0 := hx107_0
    cases e107
    replace hx107_0 := zk HB.out hx107_0
    replace hx107_1 := zk HB.out hx107_1
    replace p107 := eq_true p107
    replace q107 := eq_true q107
    refine start_ (n := 23) (S := fun w' => w'.cell? (ad107.add ((x3_1).toNat * 2)) = some (.int .i64 ((rd_T35 l0 x3_1).f0)) ∧ w'.cell? ⟨(ad107.add ((x3_1).toNat * 2)).block, (ad107.add ((x3_1).toNat * 2)).off + 1, none⟩ = some (.int .i64 ((rd_T35 l0 x3_1).f1))) (ds := []) zA0 (by kernel_rfl) rfl rfl ⟨(zk HB.out hw107_0), (zk HB.out hw107_1)⟩ (fun hHeld => ?_); refine with_tabW spec_IsShape.tab4 spec_IsShape.bits4 (fun HT_ HW_ => ?_)
    generalize wr.drew = w18 at HB hx107_0 hx107_1 hHeld ⊢
    refine zp 0 (some 10) ?_ zA1 rfl rfl (Or.inl ⟨by rfl, ?_⟩) ?_ ?_ ?_
    rotate_left
    ·intro w'
     go_simp
     with_reducible rfl
    rotate_left
    ·simp only [Act.put, xA, xB, xC, i64_w, i32_w]
     rfl
    refine zp 1 (some 11) ?_ zA2 rfl rfl (Or.inl ⟨by rfl, ?_⟩) ?_ ?_ ?_
    rotate_left
    ·intro w'
     go_simp
     with_reducible rfl
    rotate_left
    ·simp only [Act.put, xA, xB, xC, i64_w, i32_w]
     rfl
    refine zp 2 (some 12) ?_ zA3 rfl rfl (Or.inl ⟨by rfl, ?_⟩) ?_ ?_ ?_
    rotate_left
    ·intro w'
     go_simp
     with_reducible rfl
    rotate_left
    ·simp only [Act.put, xA, xB, xC, i64_w, i32_w]
     rfl
    refine zu 3 (some 13) ?_ zA4 rfl rfl (Or.inl ⟨by rfl, ?_⟩) hHeld ?_ ?_ ?_
    rotate_left
    ·rintro w' ⟨s0, s1⟩
     go_simp
     with_reducible rfl
    rotate_left
    ·simp only [Act.put, xA, xB, xC, i64_w, i32_w]
     rfl
    refine one_ (i := 4) (N := some 14) zA5 rfl rfl (one_of HT_.out (by kernel_rfl)) (by decide) (fun K hK => ?_)
    refine goes_ Try.func27 (by kernel_rfl) rfl #[.agg #[.int .i64 ((rd_T35 l0 x3_1).f0), .int .i64 ((rd_T35 l0 x3_1).f1)]] (by rfl) rfl rfl zm ?_
    with_reducible refine (spec_l02Cell.calls ((rd_T35 l0 x3_1).f0) ((rd_T35 l0 x3_1).f1) true _ A4.out).mono ?_
    rintro e w19 ⟨rfl, hb⟩
    refine ⟨_, rfl, ?_⟩
    have n0_ := aM (below_step zb hb)
    clear HB
    have HB := n0_
    clear n0_
    (try clear hb)
    (try clear hb2)
    (try clear hk)
    (try clear hi)
    refine hK.out _ _ ⟨(zk HB.out hw107_0), (zk HB.out hw107_1)⟩ (fun hHeld => ?_)
    clear hK K
    refine norm_ (a' := ?_) ?_ ?_
    rotate_left
    ·show Act.put _ (some 14) _ = _
     simp only [Act.put, xA, xB, xC, i64_w, i32_w]
     rfl
    refine zp 5 (some 15) ?_ zA6 rfl rfl (Or.inl ⟨by rfl, ?_⟩) ?_ ?_ ?_
    rotate_left
    ·intro w'
     go_simp
     with_reducible rfl
    rotate_left
    ·simp only [Act.put, xA, xB, xC, i64_w, i32_w]
     rfl
    refine zp 6 (some 16) ?_ zA7 rfl rfl (Or.inl ⟨by rfl, ?_⟩) ?_ ?_ ?_
    rotate_left
    ·intro w'
     go_simp
     with_reducible rfl
    rotate_left
    ·simp only [Act.put, xA, xB, xC, i64_w, i32_w]
     rfl
    refine zp 7 (some 17) ?_ zA8 rfl rfl (Or.inl ⟨by rfl, ?_⟩) ?_ ?_ ?_
    rotate_left
    ·intro w'
     go_simp
     with_reducible rfl
    rotate_left
    ·simp only [Act.put, xA, xB, xC, i64_w, i32_w]
     rfl
    refine zp 8 (some 18) ?_ zA9 rfl rfl (Or.inl ⟨by rfl, ?_⟩) ?_ ?_ ?_
    rotate_left
    ·intro w'
     go_simp
     with_reducible rfl
    rotate_left
    ·simp only [Act.put, xA, xB, xC, i64_w, i32_w]
     rfl
    refine zp 9 (some 19) ?_ zA10 rfl rfl (Or.inl ⟨by rfl, ?_⟩) ?_ ?_ ?_
    rotate_left
    ·intro w'
     go_simp
     with_reducible rfl
    rotate_left
    ·simp only [Act.put, xA, xB, xC, i64_w, i32_w]
     rfl
    refine zp 10 (some 20) undef zA11 rfl rfl (Or.inr ⟨by rfl, rfl⟩) ?_ ?_ ?_
    rotate_left
    ·simp only [Act.put, xA, xB, xC, i64_w, i32_w]
     rfl
    refine zp 11 (some 21) undef zA12 rfl rfl (Or.inr ⟨by rfl, rfl⟩) ?_ ?_ ?_
    rotate_left
    ·simp only [Act.put, xA, xB, xC, i64_w, i32_w]
     rfl
    refine zp 12 (some 22) undef zA13 rfl rfl (Or.inr ⟨by rfl, rfl⟩) ?_ ?_ ?_
    rotate_left
    ·simp only [Act.put, xA, xB, xC, i64_w, i32_w]
     rfl
    refine zp 13 (some 23) undef zA14 rfl rfl (Or.inr ⟨by rfl, rfl⟩) ?_ ?_ ?_
    rotate_left
    ·simp only [Act.put, xA, xB, xC, i64_w, i32_w]
     rfl
    refine zp 14 (some 24) undef zA15 rfl rfl (Or.inr ⟨by rfl, rfl⟩) ?_ ?_ ?_
    rotate_left
    ·simp only [Act.put, xA, xB, xC, i64_w, i32_w]
     rfl
    refine zp 15 (some 25) undef zA16 rfl rfl (Or.inr ⟨by rfl, rfl⟩) ?_ ?_ ?_
    rotate_left
    ·simp only [Act.put, xA, xB, xC, i64_w, i32_w]
     rfl
    refine zp 16 (some 26) undef zA17 rfl rfl (Or.inr ⟨by rfl, rfl⟩) ?_ ?_ ?_
    rotate_left
    ·simp only [Act.put, xA, xB, xC, i64_w, i32_w]
     rfl
    refine zp 17 (some 27) undef zA18 rfl rfl (Or.inr ⟨by rfl, rfl⟩) ?_ ?_ ?_
    rotate_left
    ·simp only [Act.put, xA, xB, xC, i64_w, i32_w]
     rfl
    refine zp 18 (some 28) undef zA19 rfl rfl (Or.inr ⟨by rfl, rfl⟩) ?_ ?_ ?_
    rotate_left
    ·simp only [Act.put, xA, xB, xC, i64_w, i32_w]
     rfl
    refine zp 19 (some 29) undef zA20 rfl rfl (Or.inr ⟨by rfl, rfl⟩) ?_ ?_ ?_
    rotate_left
    ·simp only [Act.put, xA, xB, xC, i64_w, i32_w]
     rfl
    refine zp 20 (some 30) undef zA21 rfl rfl (Or.inr ⟨by rfl, rfl⟩) ?_ ?_ ?_
    rotate_left
    ·simp only [Act.put, xA, xB, xC, i64_w, i32_w]
     rfl
    refine zp 21 (some 31) ?_ zA22 rfl rfl (Or.inl ⟨by rfl, ?_⟩) ?_ ?_ ?_
    rotate_left
    ·intro w'
     go_simp
     with_reducible rfl
    rotate_left
    ·simp only [Act.put, xA, xB, xC, i64_w, i32_w]
     rfl
    refine zp 22 (some 32) ?_ zA23 rfl rfl (Or.inl ⟨by rfl, ?_⟩) ?_ ?_ ?_
    rotate_left
    ·intro w'
     go_simp
     with_reducible rfl
    rotate_left
    ·simp only [Act.put, xA, xB, xC, i64_w, i32_w]
     rfl
    refine done_ (done_of HT_.out (by kernel_rfl)) ?_
    try go_wp2
    go_roundg k1
    case measure => have := HK1.out; omega
    case rel => exact ⟨(wrap64 (x3_1 + 1)), zr, H', ⟨by have := HK1.out; omega⟩, ⟨zb⟩⟩
   rw [if_pos c6] at H
   have c6b0 : decide (0 < x3_1) = true := decide_eq_true c6
   clear c6
   obtain ⟨ji7, hji7⟩ : ∃ j_ : Int, (wrap64 (x3_1 - 1)) = j_ := ⟨_, rfl⟩
   replace H : (if 0 ≤ (ji7) then (if (ji7) < (l0.length : Int) then ((spec_l02Less.f ((rd_T35 l0 (ji7)).f0) ((rd_T35 l0 (ji7)).f1) ((rd_T35 l0 x3_1).f0) ((rd_T35 l0 x3_1).f1)).bind fun t111 => (if t111 = true then (spec_IsShape.l0 k1 l0 (wrap64 (x3_1 + 1))) else (some false))) else (none)) else (none)) = some r := by first | (rw [hji7] at H; exact H) | (simp only [hji7] at H ⊢; exact H)
   (try rw [hji7] at A4)
   have hji7w : (IntKind.i64.wrap (x3_1 - 1)) = ji7 := (i64_w _).trans hji7
   by_cases c8 : 0 ≤ (ji7)
   rotate_left
   ·rw [if_neg c8] at H
    exact absurd H (by simp)
   rw [if_pos c8] at H
   have c8b0 : decide (0 ≤ (ji7)) = true := decide_eq_true c8
   clear c8
   by_cases c9 : (ji7) < (l0.length : Int)
   rotate_left
   ·rw [if_neg c9] at H
    exact absurd H (by simp)
   rw [if_pos c9] at H
   have c9b0 : decide ((ji7) < (l0.length : Int)) = true := decide_eq_true c9
   clear c9
   replace H := Option.bind_eq_some_iff.mp H
   obtain ⟨t111, A100, H⟩ := H
   replace H : (if t111 = true then (spec_IsShape.l0 k1 l0 (wrap64 (x3_1 + 1))) else (some false)) = some r := H
   have A10 := aM A100
   clear A100
   by_cases c11 : t111 = true
   rotate_left
   ·replace c11 := Bool.eq_false_iff.mpr c11
    subst c11
    have H1 : (some false) = some r := by rw [if_neg (show ¬ (false = true) by decide)] at H; exact H
    clear H
    have H := H1
    clear H1
    obtain rfl := Option.some.inj H
    try go_wp2
    have n0_ := aM (below_drew1 HB.out)
    clear HB
    have HB := n0_
    clear n0_
    have p107 : 0 ≤ (x3_1 : Int) := of_decide_eq_true za
    have q107 : x3_1 < (l0.length : Int) := of_decide_eq_true za
    obtain ⟨ad107, e107, hx107_0, hx107_1⟩ := at_T35 HR0.out x3_1 p107 q107
    have hw107_1 := hx107_1
    have hw107_0 := hx107_0
    cases e107
    replace hx107_0 := zk HB.out hx107_0
    replace hx107_1 := zk HB.out hx107_1
    replace p107 := eq_true p107
    replace q107 := eq_true q107
    have p109 : 0 ≤ ((ji7) : Int) := of_decide_eq_true za
    have q109 : (ji7) < (l0.length : Int) := of_decide_eq_true za
    obtain ⟨ad109, e109, hx109_0, hx109_1⟩ := at_T35 HR0.out (ji7) p109 q109
    have hw109_1 := hx109_1
    have hw109_0 := hx109_0
    obtain rfl : ad107 = ad109 := (by injection e109)
    replace hx109_0 := zk HB.out hx109_0
    replace hx109_1 := zk HB.out hx109_1
    replace p109 := eq_true p109
    replace q109 := eq_true q109
    have p110 : 0 ≤ (x3_1 : Int) := of_decide_eq_true za
    have q110 : x3_1 < (l0.length : Int) := of_decide_eq_true za
    obtain ⟨ad110, e110, hx110_0, hx110_1⟩ := at_T35 HR0.out x3_1 p110 q110
    have hw110_1 := hx110_1
    have hw110_0 := hx110_0
    obtain rfl : ad107 = ad110 := (by injection e110)
    replace hx110_0 := zk HB.out hx110_0
    replace hx110_1 := zk HB.out hx110_1
    replace p110 := eq_true p110
    replace q110 := eq_true q110
    refine start_ (n := 23) (S := fun w' => w'.cell? (ad107.add ((x3_1).toNat * 2)) = some (.int .i64 ((rd_T35 l0 x3_1).f0)) ∧ w'.cell? ⟨(ad107.add ((x3_1).toNat * 2)).block, (ad107.add ((x3_1).toNat * 2)).off + 1, none⟩ = some (.int .i64 ((rd_T35 l0 x3_1).f1)) ∧ w'.cell? (ad107.add (((ji7)).toNat * 2)) = some (.int .i64 ((rd_T35 l0 (ji7)).f0)) ∧ w'.cell? ⟨(ad107.add (((ji7)).toNat * 2)).block, (ad107.add (((ji7)).toNat * 2)).off + 1, none⟩ = some (.int .i64 ((rd_T35 l0 (ji7)).f1)) ∧ w'.cell? (ad107.add ((x3_1).toNat * 2)) = some (.int .i64 ((rd_T35 l0 x3_1).f0)) ∧ w'.cell? ⟨(ad107.add ((x3_1).toNat * 2)).block, (ad107.add ((x3_1).toNat * 2)).off + 1, none⟩ = some (.int .i64 ((rd_T35 l0 x3_1).f1))) (ds := []) zA0 (by kernel_rfl) rfl rfl ⟨(zk HB.out hw107_0), (zk HB.out hw107_1), (zk HB.out hw109_0), (zk HB.out hw109_1), (zk HB.out hw110_0), (zk HB.out hw110_1)⟩ (fun hHeld => ?_); refine with_tabW spec_IsShape.tab4 spec_IsShape.bits4 (fun HT_ HW_ => ?_)
    generalize wr.drew = w15 at HB hx107_0 hx107_1 hx109_0 hx109_1 hx110_0 hx110_1 hHeld ⊢
    refine zp 0 (some 10) ?_ zA1 rfl rfl (Or.inl ⟨by rfl, ?_⟩) ?_ ?_ ?_
    rotate_left
    ·intro w'
     go_simp
     with_reducible rfl
    rotate_left
    ·simp only [Act.put, xA, xB, xC, i64_w, i32_w]
     rfl
    refine zp 1 (some 11) ?_ zA2 rfl rfl (Or.inl ⟨by rfl, ?_⟩) ?_ ?_ ?_
    rotate_left
    ·intro w'
     go_simp
     with_reducible rfl
    rotate_left
    ·simp only [Act.put, xA, xB, xC, i64_w, i32_w]
     rfl
    refine zp 2 (some 12) ?_ zA3 rfl rfl (Or.inl ⟨by rfl, ?_⟩) ?_ ?_ ?_
    rotate_left
    ·intro w'
     go_simp
     with_reducible rfl
    rotate_left
    ·simp only [Act.put, xA, xB, xC, i64_w, i32_w]
     rfl
    refine zu 3 (some 13) ?_ zA4 rfl rfl (Or.inl ⟨by rfl, ?_⟩) hHeld ?_ ?_ ?_
    rotate_left
    ·rintro w' ⟨s0, s1, s2, s3, s4, s5⟩
     go_simp
     with_reducible rfl
    rotate_left
    ·simp only [Act.put, xA, xB, xC, i64_w, i32_w]
     rfl
    refine one_ (i := 4) (N := some 14) zA5 rfl rfl (one_of HT_.out (by kernel_rfl)) (by decide) (fun K hK => ?_)
    refine goes_ Try.func27 (by kernel_rfl) rfl #[.agg #[.int .i64 ((rd_T35 l0 x3_1).f0), .int .i64 ((rd_T35 l0 x3_1).f1)]] (by rfl) rfl rfl zm ?_
    with_reducible refine (spec_l02Cell.calls ((rd_T35 l0 x3_1).f0) ((rd_T35 l0 x3_1).f1) true _ A4.out).mono ?_
    rintro e w16 ⟨rfl, hb⟩
    refine ⟨_, rfl, ?_⟩
    have n0_ := aM (below_step zb hb)
    clear HB
    have HB := n0_
    clear n0_
    (try clear hb)
    (try clear hb2)
    (try clear hk)
    (try clear hi)
    refine hK.out _ _ ⟨(zk HB.out hw107_0), (zk HB.out hw107_1), (zk HB.out hw109_0), (zk HB.out hw109_1), (zk HB.out hw110_0), (zk HB.out hw110_1)⟩ (fun hHeld => ?_)
    clear hK K
    refine norm_ (a' := ?_) ?_ ?_
    rotate_left
    ·show Act.put _ (some 14) _ = _
     simp only [Act.put, xA, xB, xC, i64_w, i32_w]
     rfl
    refine zp 5 (some 15) ?_ zA6 rfl rfl (Or.inl ⟨by rfl, ?_⟩) ?_ ?_ ?_
    rotate_left
    ·intro w'
     go_simp
     with_reducible rfl
    rotate_left
    ·simp only [Act.put, xA, xB, xC, i64_w, i32_w]
     rfl
    refine zp 6 (some 16) ?_ zA7 rfl rfl (Or.inl ⟨by rfl, ?_⟩) ?_ ?_ ?_
    rotate_left
    ·intro w'
     go_simp
     with_reducible rfl
    rotate_left
    ·simp only [Act.put, xA, xB, xC, i64_w, i32_w]
     rfl
    refine zp 7 (some 17) ?_ zA8 rfl rfl (Or.inl ⟨by rfl, ?_⟩) ?_ ?_ ?_
    rotate_left
    ·intro w'
     go_simp
     with_reducible rfl
    rotate_left
    ·simp only [Act.put, xA, xB, xC, i64_w, i32_w]
     rfl
    refine zp 8 (some 18) ?_ zA9 rfl rfl (Or.inl ⟨by rfl, ?_⟩) ?_ ?_ ?_
    rotate_left
    ·intro w'
     go_simp
     with_reducible rfl
    rotate_left
    ·simp only [Act.put, xA, xB, xC, i64_w, i32_w]
     rfl
    refine zp 9 (some 19) ?_ zA10 rfl rfl (Or.inl ⟨by rfl, ?_⟩) ?_ ?_ ?_
    rotate_left
    ·intro w'
     go_simp
     with_reducible rfl
    rotate_left
    ·simp only [Act.put, xA, xB, xC, i64_w, i32_w]
     rfl
    refine zp 10 (some 20) ?_ zA11 rfl rfl (Or.inl ⟨by rfl, ?_⟩) ?_ ?_ ?_
    rotate_left
    ·intro w'
     go_simp
     with_reducible rfl
    rotate_left
    ·simp only [Act.put, xA, xB, xC, i64_w, i32_w]
     rfl
    refine zp 11 (some 21) ?_ zA12 rfl rfl (Or.inl ⟨by rfl, ?_⟩) ?_ ?_ ?_
    rotate_left
    ·intro w'
     go_simp
     with_reducible rfl
    rotate_left
    ·simp only [Act.put, xA, xB, xC, i64_w, i32_w]
     rfl
    refine zp 12 (some 22) ?_ zA13 rfl rfl (Or.inl ⟨by rfl, ?_⟩) ?_ ?_ ?_
    rotate_left
    ·intro w'
     go_simp
     with_reducible rfl
    rotate_left
    ·simp only [Act.put, xA, xB, xC, i64_w, i32_w]
     rfl
    refine zp 13 (some 23) ?_ zA14 rfl rfl (Or.inl ⟨by rfl, ?_⟩) ?_ ?_ ?_
    rotate_left
    ·intro w'
     go_simp
     with_reducible rfl
    rotate_left
    ·simp only [Act.put, xA, xB, xC, i64_w, i32_w]
     rfl
    refine zp 15 (some 25) ?_ zA24 rfl rfl (Or.inl ⟨by rfl, ?_⟩) ?_ ?_ ?_
    rotate_left
    ·intro w'
     go_simp
     with_reducible rfl
    rotate_left
    ·simp only [Act.put, xA, xB, xC, i64_w, i32_w]
     rfl
    refine zp 16 (some 26) ?_ zA25 rfl rfl (Or.inl ⟨by rfl, ?_⟩) ?_ ?_ ?_
    rotate_left
    ·intro w'
     go_simp
     with_reducible rfl
    rotate_left
    ·simp only [Act.put, xA, xB, xC, i64_w, i32_w]
     rfl
    refine zp 17 (some 27) ?_ zA26 rfl rfl (Or.inl ⟨by rfl, ?_⟩) ?_ ?_ ?_
    rotate_left
    ·intro w'
     go_simp
     with_reducible rfl
    rotate_left
    ·simp only [Act.put, xA, xB, xC, i64_w, i32_w]
     rfl
    refine zu 14 (some 24) ?_ zA18 rfl rfl (Or.inl ⟨by rfl, ?_⟩) hHeld ?_ ?_ ?_
    rotate_left
    ·rintro w' ⟨s0, s1, s2, s3, s4, s5⟩
     go_simp
     with_reducible rfl
    rotate_left
    ·simp only [Act.put, xA, xB, xC, i64_w, i32_w]
     rfl
    refine zu 18 (some 28) ?_ zA19 rfl rfl (Or.inl ⟨by rfl, ?_⟩) hHeld ?_ ?_ ?_
    rotate_left
    ·rintro w' ⟨s0, s1, s2, s3, s4, s5⟩
     go_simp
     with_reducible rfl
    rotate_left
    ·simp only [Act.put, xA, xB, xC, i64_w, i32_w]
     rfl
    refine one_ (i := 19) (N := some 29) zA20 rfl rfl (one_of HT_.out (by kernel_rfl)) (by decide) (fun K hK => ?_)
    refine goes_ Try.func28 (by kernel_rfl) rfl #[.agg #[.int .i64 ((rd_T35 l0 (ji7)).f0), .int .i64 ((rd_T35 l0 (ji7)).f1)], .agg #[.int .i64 ((rd_T35 l0 x3_1).f0), .int .i64 ((rd_T35 l0 x3_1).f1)]] (by rfl) rfl rfl (by (try simp only [mA, mB, mC]); first | done | (simp only [hji7]; rfl) | rfl | (simp only [lD, lT]; rfl)) ?_
    with_reducible refine (spec_l02Less.calls ((rd_T35 l0 (ji7)).f0) ((rd_T35 l0 (ji7)).f1) ((rd_T35 l0 x3_1).f0) ((rd_T35 l0 x3_1).f1) false _ A10.out).mono ?_
    rintro e w17 ⟨rfl, hb⟩
    refine ⟨_, rfl, ?_⟩
    have n0_ := aM (below_step zb hb)
    clear HB
    have HB := n0_
    clear n0_
    (try clear hb)
    (try clear hb2)
    (try clear hk)
    (try clear hi)
    refine hK.out _ _ ⟨(zk HB.out hw107_0), (zk HB.out hw107_1), (zk HB.out hw109_0), (zk HB.out hw109_1), (zk HB.out hw110_0), (zk HB.out hw110_1)⟩ (fun hHeld => ?_)
    clear hK K
    refine norm_ (a' := ?_) ?_ ?_
    rotate_left
    ·show Act.put _ (some 29) _ = _
     simp only [Act.put, xA, xB, xC, i64_w, i32_w]
     rfl
    refine zp 20 (some 30) ?_ zA21 rfl rfl (Or.inl ⟨by rfl, ?_⟩) ?_ ?_ ?_
    rotate_left
    ·intro w'
     go_simp
     with_reducible rfl
    rotate_left
    ·simp only [Act.put, xA, xB, xC, i64_w, i32_w]
     rfl
    refine zp 21 (some 31) ?_ zA22 rfl rfl (Or.inl ⟨by rfl, ?_⟩) ?_ ?_ ?_
    rotate_left
    ·intro w'
     go_simp
     with_reducible rfl
    rotate_left
    ·simp only [Act.put, xA, xB, xC, i64_w, i32_w]
     rfl
    refine zp 22 (some 32) ?_ zA23 rfl rfl (Or.inl ⟨by rfl, ?_⟩) ?_ ?_ ?_
    rotate_left
    ·intro w'
     go_simp
     with_reducible rfl
    rotate_left
    ·simp only [Act.put, xA, xB, xC, i64_w, i32_w]
     rfl
    refine done_ (done_of HT_.out (by kernel_rfl)) ?_
    try go_wp2
    go_ret
    exact ⟨by first | rfl | (simp [errW_none, errW_some] <;> rfl) | (simp only [← hji7]; first | rfl | (simp [errW_none, errW_some] <;> rfl)) | (simp [*, errW_none, errW_some] <;> rfl), zb⟩
   subst c11
   have H1 : (spec_IsShape.l0 k1 l0 (wrap64 (x3_1 + 1))) = some r := by rw [if_pos rfl] at H; exact H
   clear H
   have H := H1
   clear H1
   have H' := aM H
   clear H
   try go_wp2
   have n0_ := aM (below_drew1 HB.out)
   clear HB
   have HB := n0_
   clear n0_
   have p107 : 0 ≤ (x3_1 : Int) := of_decide_eq_true za
   have q107 : x3_1 < (l0.length : Int) := of_decide_eq_true za
   obtain ⟨ad107, e107, hx107_0, hx107_1⟩ := at_T35 HR0.out x3_1 p107 q107
   have hw107_1 := hx107_1
   have hw107_0 := hx107_0
   cases e107
   replace hx107_0 := zk HB.out hx107_0
   replace hx107_1 := zk HB.out hx107_1
   replace p107 := eq_true p107
   replace q107 := eq_true q107
   have p109 : 0 ≤ ((ji7) : Int) := of_decide_eq_true za
   have q109 : (ji7) < (l0.length : Int) := of_decide_eq_true za
   obtain ⟨ad109, e109, hx109_0, hx109_1⟩ := at_T35 HR0.out (ji7) p109 q109
   have hw109_1 := hx109_1
   have hw109_0 := hx109_0
   obtain rfl : ad107 = ad109 := (by injection e109)
   replace hx109_0 := zk HB.out hx109_0
   replace hx109_1 := zk HB.out hx109_1
   replace p109 := eq_true p109
   replace q109 := eq_true q109
   have p110 : 0 ≤ (x3_1 : Int) := of_decide_eq_true za
   have q110 : x3_1 < (l0.length : Int) := of_decide_eq_true za
   obtain ⟨ad110, e110, hx110_0, hx110_1⟩ := at_T35 HR0.out x3_1 p110 q110
   have hw110_1 := hx110_1
   have hw110_0 := hx110_0
   obtain rfl : ad107 = ad110 := (by injection e110)
   replace hx110_0 := zk HB.out hx110_0
   replace hx110_1 := zk HB.out hx110_1
   replace p110 := eq_true p110
   replace q110 := eq_true q110
   refine start_ (n := 23) (S := fun w' => w'.cell? (ad107.add ((x3_1).toNat * 2)) = some (.int .i64 ((rd_T35 l0 x3_1).f0)) ∧ w'.cell? ⟨(ad107.add ((x3_1).toNat * 2)).block, (ad107.add ((x3_1).toNat * 2)).off + 1, none⟩ = some (.int .i64 ((rd_T35 l0 x3_1).f1)) ∧ w'.cell? (ad107.add (((ji7)).toNat * 2)) = some (.int .i64 ((rd_T35 l0 (ji7)).f0)) ∧ w'.cell? ⟨(ad107.add (((ji7)).toNat * 2)).block, (ad107.add (((ji7)).toNat * 2)).off + 1, none⟩ = some (.int .i64 ((rd_T35 l0 (ji7)).f1)) ∧ w'.cell? (ad107.add ((x3_1).toNat * 2)) = some (.int .i64 ((rd_T35 l0 x3_1).f0)) ∧ w'.cell? ⟨(ad107.add ((x3_1).toNat * 2)).block, (ad107.add ((x3_1).toNat * 2)).off + 1, none⟩ = some (.int .i64 ((rd_T35 l0 x3_1).f1))) (ds := []) zA0 (by kernel_rfl) rfl rfl ⟨(zk HB.out hw107_0), (zk HB.out hw107_1), (zk HB.out hw109_0), (zk HB.out hw109_1), (zk HB.out hw110_0), (zk HB.out hw110_1)⟩ (fun hHeld => ?_); refine with_tabW spec_IsShape.tab4 spec_IsShape.bits4 (fun HT_ HW_ => ?_)
   generalize wr.drew = w12 at HB hx107_0 hx107_1 hx109_0 hx109_1 hx110_0 hx110_1 hHeld ⊢
   refine zp 0 (some 10) ?_ zA1 rfl rfl (Or.inl ⟨by rfl, ?_⟩) ?_ ?_ ?_
   rotate_left
   ·intro w'
    go_simp
    with_reducible rfl
   rotate_left
   ·simp only [Act.put, xA, xB, xC, i64_w, i32_w]
    rfl
   refine zp 1 (some 11) ?_ zA2 rfl rfl (Or.inl ⟨by rfl, ?_⟩) ?_ ?_ ?_
   rotate_left
   ·intro w'
    go_simp
    with_reducible rfl
   rotate_left
   ·simp only [Act.put, xA, xB, xC, i64_w, i32_w]
    rfl
   refine zp 2 (some 12) ?_ zA3 rfl rfl (Or.inl ⟨by rfl, ?_⟩) ?_ ?_ ?_
   rotate_left
   ·intro w'
    go_simp
    with_reducible rfl
   rotate_left
   ·simp only [Act.put, xA, xB, xC, i64_w, i32_w]
    rfl
   refine zu 3 (some 13) ?_ zA4 rfl rfl (Or.inl ⟨by rfl, ?_⟩) hHeld ?_ ?_ ?_
   rotate_left
   ·rintro w' ⟨s0, s1, s2, s3, s4, s5⟩
    go_simp
    with_reducible rfl
   rotate_left
   ·simp only [Act.put, xA, xB, xC, i64_w, i32_w]
    rfl
   refine one_ (i := 4) (N := some 14) zA5 rfl rfl (one_of HT_.out (by kernel_rfl)) (by decide) (fun K hK => ?_)
   refine goes_ Try.func27 (by kernel_rfl) rfl #[.agg #[.int .i64 ((rd_T35 l0 x3_1).f0), .int .i64 ((rd_T35 l0 x3_1).f1)]] (by rfl) rfl rfl zm ?_
   with_reducible refine (spec_l02Cell.calls ((rd_T35 l0 x3_1).f0) ((rd_T35 l0 x3_1).f1) true _ A4.out).mono ?_
   rintro e w13 ⟨rfl, hb⟩
   refine ⟨_, rfl, ?_⟩
   have n0_ := aM (below_step zb hb)
   clear HB
   have HB := n0_
   clear n0_
   (try clear hb)
   (try clear hb2)
   (try clear hk)
   (try clear hi)
   refine hK.out _ _ ⟨(zk HB.out hw107_0), (zk HB.out hw107_1), (zk HB.out hw109_0), (zk HB.out hw109_1), (zk HB.out hw110_0), (zk HB.out hw110_1)⟩ (fun hHeld => ?_)
   clear hK K
   refine norm_ (a' := ?_) ?_ ?_
   rotate_left
   ·show Act.put _ (some 14) _ = _
    simp only [Act.put, xA, xB, xC, i64_w, i32_w]
    rfl
   refine zp 5 (some 15) ?_ zA6 rfl rfl (Or.inl ⟨by rfl, ?_⟩) ?_ ?_ ?_
   rotate_left
   ·intro w'
    go_simp
    with_reducible rfl
   rotate_left
   ·simp only [Act.put, xA, xB, xC, i64_w, i32_w]
    rfl
   refine zp 6 (some 16) ?_ zA7 rfl rfl (Or.inl ⟨by rfl, ?_⟩) ?_ ?_ ?_
   rotate_left
   ·intro w'
    go_simp
    with_reducible rfl
   rotate_left
   ·simp only [Act.put, xA, xB, xC, i64_w, i32_w]
    rfl
   refine zp 7 (some 17) ?_ zA8 rfl rfl (Or.inl ⟨by rfl, ?_⟩) ?_ ?_ ?_
   rotate_left
   ·intro w'
    go_simp
    with_reducible rfl
   rotate_left
   ·simp only [Act.put, xA, xB, xC, i64_w, i32_w]
    rfl
   refine zp 8 (some 18) ?_ zA9 rfl rfl (Or.inl ⟨by rfl, ?_⟩) ?_ ?_ ?_
   rotate_left
   ·intro w'
    go_simp
    with_reducible rfl
   rotate_left
   ·simp only [Act.put, xA, xB, xC, i64_w, i32_w]
    rfl
   refine zp 9 (some 19) ?_ zA10 rfl rfl (Or.inl ⟨by rfl, ?_⟩) ?_ ?_ ?_
   rotate_left
   ·intro w'
    go_simp
    with_reducible rfl
   rotate_left
   ·simp only [Act.put, xA, xB, xC, i64_w, i32_w]
    rfl
   refine zp 10 (some 20) ?_ zA11 rfl rfl (Or.inl ⟨by rfl, ?_⟩) ?_ ?_ ?_
   rotate_left
   ·intro w'
    go_simp
    with_reducible rfl
   rotate_left
   ·simp only [Act.put, xA, xB, xC, i64_w, i32_w]
    rfl
   refine zp 11 (some 21) ?_ zA12 rfl rfl (Or.inl ⟨by rfl, ?_⟩) ?_ ?_ ?_
   rotate_left
   ·intro w'
    go_simp
    with_reducible rfl
   rotate_left
   ·simp only [Act.put, xA, xB, xC, i64_w, i32_w]
    rfl
   refine zp 12 (some 22) ?_ zA13 rfl rfl (Or.inl ⟨by rfl, ?_⟩) ?_ ?_ ?_
   rotate_left
   ·intro w'
    go_simp
    with_reducible rfl
   rotate_left
   ·simp only [Act.put, xA, xB, xC, i64_w, i32_w]
    rfl
   refine zp 13 (some 23) ?_ zA14 rfl rfl (Or.inl ⟨by rfl, ?_⟩) ?_ ?_ ?_
   rotate_left
   ·intro w'
    go_simp
    with_reducible rfl
   rotate_left
   ·simp only [Act.put, xA, xB, xC, i64_w, i32_w]
    rfl
   refine zp 15 (some 25) ?_ zA24 rfl rfl (Or.inl ⟨by rfl, ?_⟩) ?_ ?_ ?_
   rotate_left
   ·intro w'
    go_simp
    with_reducible rfl
   rotate_left
   ·simp only [Act.put, xA, xB, xC, i64_w, i32_w]
    rfl
   refine zp 16 (some 26) ?_ zA25 rfl rfl (Or.inl ⟨by rfl, ?_⟩) ?_ ?_ ?_
   rotate_left
   ·intro w'
    go_simp
    with_reducible rfl
   rotate_left
   ·simp only [Act.put, xA, xB, xC, i64_w, i32_w]
    rfl
   refine zp 17 (some 27) ?_ zA26 rfl rfl (Or.inl ⟨by rfl, ?_⟩) ?_ ?_ ?_
   rotate_left
   ·intro w'
    go_simp
    with_reducible rfl
   rotate_left
   ·simp only [Act.put, xA, xB, xC, i64_w, i32_w]
    rfl
   refine zu 14 (some 24) ?_ zA18 rfl rfl (Or.inl ⟨by rfl, ?_⟩) hHeld ?_ ?_ ?_
   rotate_left
   ·rintro w' ⟨s0, s1, s2, s3, s4, s5⟩
    go_simp
    with_reducible rfl
   rotate_left
   ·simp only [Act.put, xA, xB, xC, i64_w, i32_w]
    rfl
   refine zu 18 (some 28) ?_ zA19 rfl rfl (Or.inl ⟨by rfl, ?_⟩) hHeld ?_ ?_ ?_
   rotate_left
   ·rintro w' ⟨s0, s1, s2, s3, s4, s5⟩
    go_simp
    with_reducible rfl
   rotate_left
   ·simp only [Act.put, xA, xB, xC, i64_w, i32_w]
    rfl
   refine one_ (i := 19) (N := some 29) zA20 rfl rfl (one_of HT_.out (by kernel_rfl)) (by decide) (fun K hK => ?_)
   refine goes_ Try.func28 (by kernel_rfl) rfl #[.agg #[.int .i64 ((rd_T35 l0 (ji7)).f0), .int .i64 ((rd_T35 l0 (ji7)).f1)], .agg #[.int .i64 ((rd_T35 l0 x3_1).f0), .int .i64 ((rd_T35 l0 x3_1).f1)]] (by rfl) rfl rfl (by (try simp only [mA, mB, mC]); first | done | (simp only [hji7]; rfl) | rfl | (simp only [lD, lT]; rfl)) ?_
   with_reducible refine (spec_l02Less.calls ((rd_T35 l0 (ji7)).f0) ((rd_T35 l0 (ji7)).f1) ((rd_T35 l0 x3_1).f0) ((rd_T35 l0 x3_1).f1) true _ A10.out).mono ?_
   rintro e w14 ⟨rfl, hb⟩
   refine ⟨_, rfl, ?_⟩
   have n0_ := aM (below_step zb hb)
   clear HB
   have HB := n0_
   clear n0_
   (try clear hb)
   (try clear hb2)
   (try clear hk)
   (try clear hi)
   refine hK.out _ _ ⟨(zk HB.out hw107_0), (zk HB.out hw107_1), (zk HB.out hw109_0), (zk HB.out hw109_1), (zk HB.out hw110_0), (zk HB.out hw110_1)⟩ (fun hHeld => ?_)
   clear hK K
   refine norm_ (a' := ?_) ?_ ?_
   rotate_left
   ·show Act.put _ (some 29) _ = _
    simp only [Act.put, xA, xB, xC, i64_w, i32_w]
    rfl
   refine zp 20 (some 30) ?_ zA21 rfl rfl (Or.inl ⟨by rfl, ?_⟩) ?_ ?_ ?_
   rotate_left
   ·intro w'
    go_simp
    with_reducible rfl
   rotate_left
   ·simp only [Act.put, xA, xB, xC, i64_w, i32_w]
    rfl
   refine zp 21 (some 31) ?_ zA22 rfl rfl (Or.inl ⟨by rfl, ?_⟩) ?_ ?_ ?_
   rotate_left
   ·intro w'
    go_simp
    with_reducible rfl
   rotate_left
   ·simp only [Act.put, xA, xB, xC, i64_w, i32_w]
    rfl
   refine zp 22 (some 32) ?_ zA23 rfl rfl (Or.inl ⟨by rfl, ?_⟩) ?_ ?_ ?_
   rotate_left
   ·intro w'
    go_simp
    with_reducible rfl
   rotate_left
   ·simp only [Act.put, xA, xB, xC, i64_w, i32_w]
    rfl
   refine done_ (done_of HT_.out (by kernel_rfl)) ?_
   try go_wp2
   go_roundg k1
   case measure => have := HK1.out; omega
   case rel => exact ⟨(wrap64 (x3_1 + 1)), zr, H', ⟨by have := HK1.out; omega⟩, ⟨zb⟩⟩
end Go.Proofs.Ytpoiiaephcddoaa.F
end
section
namespace Go.Proofs.Ytpoiiaephcddoaa.F
open Go.RowKit Go.Proofs.YtpoiiaephcddoaaW.PrintWords Go.Proofs.YtpoiiaephcddoaaW.PrintLast Go.Proofs.YtpoiiaephcddoaaW.PrintMore
attribute [local go_sem] max2_int min2_int max_two min_two max_three min_three max_four min_four
set_option linter.unusedVariables false
set_option linter.unusedSimpArgs false
attribute [local go_sem high] eqA35
def spec_l02Index.l0 : Nat → List (S35) → Int → Int → Int → Option (Int)
 | 0, _, _, _, _ => none
 | k + 1, x0, x5, x113000, x113001 => if x5 < (x0.length : Int) then (if 0 ≤ x5 then (if (((rd_T35 x0 x5).f0) == x113000 && (((rd_T35 x0 x5).f1) == x113001)) = true then (some x5) else (spec_l02Index.l0 k x0 (wrap64 (x5 + 1)) x113000 x113001)) else (none)) else (some (-1))
def spec_l02Index.f (k : Nat) (l0 : List (S35)) (a1_0 : Int) (a1_1 : Int) : Option (Int) := spec_l02Index.l0 k l0 0 a1_0 a1_1
theorem spec_l02Index.calls (k : Nat) (A0 : Option Addr) (c0 : Nat) (l0 : List (S35)) (a1_0 : Int) (a1_1 : Int) (r : Int) (w : World) (hr0 : Kd.C k35 w A0 l0.length l0) (hc0 : l0.length ≤ c0) (h : spec_l02Index.f k l0 a1_0 a1_1 = some r) :
  Calls Try.prog 17 #[.slice A0 l0.length c0, .agg #[.int .i64 a1_0, .int .i64 a1_1]] w fun e w' => e = .returned (.int .i64 r) ∧ Below w.heap.size w w' := by
 have hu35 := Try.underlying35
 have HR0 := aM hr0
 have HC0 := aM hc0
 clear hr0 hc0
 have HB := aM (Below.refl w.heap.size w)
 have H : (spec_l02Index.l0 k l0 0 a1_0 a1_1) = some r := h
 clear h
 have H' := aM H
 clear H
 go_enter Try.func17, Try.ntmps17
 go_wp2_with (first | ((with_reducible refine gate_dst (N := 3) rfl ?_); refine zx 3 #[.int .i64 a1_0, .int .i64 a1_1] 35 ?_; intro gb112 hg w3 hbox hb; have n0_ := aM (below_step zb hb); have n1_ := aM (hbox); have n2_ := aM ((ze : w.heap.size ≤ gb112)); have n3_ := aM ((ze : w.heap.size ≤ gb112)); clear HB; have HB := n0_; have BK112 := n1_; have GW112 := n2_; have GE112 := n3_; clear n0_ n1_ n2_ n3_; clear hb hbox hg))
 repeat (go_quiet (first | ((with_reducible refine gate_dst (N := 3) rfl ?_); refine zx 3 #[.int .i64 a1_0, .int .i64 a1_1] 35 ?_; intro gb112 hg w3 hbox hb; have n0_ := aM (below_step zb hb); have n1_ := aM (hbox); have n2_ := aM ((ze : w.heap.size ≤ gb112)); have n3_ := aM ((ze : w.heap.size ≤ gb112)); clear HB; have HB := n0_; have BK112 := n1_; have GW112 := n2_; have GE112 := n3_; clear n0_ n1_ n2_ n3_; clear hb hbox hg)); try go_wp2_with (first | ((with_reducible refine gate_dst (N := 3) rfl ?_); refine zx 3 #[.int .i64 a1_0, .int .i64 a1_1] 35 ?_; intro gb112 hg w3 hbox hb; have n0_ := aM (below_step zb hb); have n1_ := aM (hbox); have n2_ := aM ((ze : w.heap.size ≤ gb112)); have n3_ := aM ((ze : w.heap.size ≤ gb112)); clear HB; have HB := n0_; have BK112 := n1_; have GW112 := n2_; have GE112 := n3_; clear n0_ n1_ n2_ n3_; clear hb hbox hg)))
 go_loopg [5] k (fun kq v5 w' => ∃ (x5_1 : Int), v5 = .int .i64 x5_1 ∧ Aside0 (spec_l02Index.l0 kq l0 x5_1 a1_0 a1_1 = some r) ∧ Aside0 (kq ≤ k) ∧ Aside0 (w'.heap[gb112]? = some (.cells #[.int .i64 a1_0, .int .i64 a1_1] 35 (0, 0))) ∧ Aside0 (Below w.heap.size w w'))
 case atStart => exact ⟨(0), zr, H', ⟨Nat.le_refl _⟩, ⟨mB_ BK112.out⟩, ⟨zs GE112.out⟩⟩
 case round =>
  clear H'
  try clear c1
  try clear p2
  obtain ⟨x5_1, rfl, HA, HK1, BK112, HB⟩ := hrel
  cases gk with
  | zero => exact absurd HA.out (by simp [spec_l02Index.l0])
  | succ k1 =>
   have H := HA.out
   clear HA
   simp only [spec_l02Index.l0] at H
   by_cases c4 : x5_1 < (l0.length : Int)
   rotate_left
   ·rw [if_neg c4] at H
    have c4b0 : decide (x5_1 < (l0.length : Int)) = false := decide_eq_false c4
    clear c4
    obtain rfl := Option.some.inj H
    go_wp2
    repeat (go_quiet (fail); try go_wp2)
    go_ret
    exact ⟨zw, zs GE112.out⟩
   rw [if_pos c4] at H
   have c4b0 : decide (x5_1 < (l0.length : Int)) = true := decide_eq_true c4
   clear c4
   by_cases c5 : 0 ≤ x5_1
   rotate_left
   ·rw [if_neg c5] at H
    exact absurd H (by simp)
   rw [if_pos c5] at H
   have c5b0 : decide (0 ≤ x5_1) = true := decide_eq_true c5
   clear c5
   by_cases c6 : (((rd_T35 l0 x5_1).f0) == a1_0 && (((rd_T35 l0 x5_1).f1) == a1_1)) = true
   ·rw [if_pos c6] at H
    have c6b0 : (((rd_T35 l0 x5_1).f0) == a1_0 && (((rd_T35 l0 x5_1).f1) == a1_1)) = true := c6
    (try (have c6b1 : decide (((rd_T35 l0 x5_1).f0) = a1_0 && (((rd_T35 l0 x5_1).f1) == a1_1)) = true := by simpa using c6))
    (try (have c6b2 : (((rd_T35 l0 x5_1).f0) == a1_0 && (((rd_T35 l0 x5_1).f1) == a1_1)) = true := by simpa using c6))
    clear c6
    obtain rfl := Option.some.inj H
    have p113 : 0 ≤ (x5_1 : Int) := of_decide_eq_true za
    have q113 : x5_1 < (l0.length : Int) := of_decide_eq_true za
    obtain ⟨ad113, e113, hx113_0, hx113_1⟩ := at_T35 HR0.out x5_1 p113 q113
    cases e113
    replace hx113_0 := zk HB.out hx113_0
    replace hx113_1 := zk HB.out hx113_1
    replace p113 := eq_true p113
    replace q113 := eq_true q113
    have hcz7_0 : wr.cell? ⟨gb112, 0, none⟩ = some (.int .i64 a1_0) := (blk_cell BK112.out 0).trans rfl
    have hcz7_1 : wr.cell? ⟨gb112, 1, none⟩ = some (.int .i64 a1_1) := (blk_cell BK112.out 1).trans rfl
    have hfz7_0 := blk_frozen BK112.out 0
    have hfz7_1 := blk_frozen BK112.out 1
    go_wp2
    repeat (go_quiet (fail); try go_wp2)
    go_ret
    exact ⟨zw, zs GE112.out⟩
   rw [if_neg c6] at H
   have c6b0 : (((rd_T35 l0 x5_1).f0) == a1_0 && (((rd_T35 l0 x5_1).f1) == a1_1)) = false := by simpa using c6
   (try (have c6b1 : decide (((rd_T35 l0 x5_1).f0) = a1_0 && (((rd_T35 l0 x5_1).f1) == a1_1)) = false := by simpa using c6))
   (try (have c6b2 : (((rd_T35 l0 x5_1).f0) == a1_0 && (((rd_T35 l0 x5_1).f1) == a1_1)) = false := by simpa using c6))
   (try (have c6b3 : ¬ (((rd_T35 l0 x5_1).f0) = a1_0 && (((rd_T35 l0 x5_1).f1) == a1_1)) := by simpa using c6))
   clear c6
   have H' := aM H
   clear H
   have p113 : 0 ≤ (x5_1 : Int) := of_decide_eq_true za
   have q113 : x5_1 < (l0.length : Int) := of_decide_eq_true za
   obtain ⟨ad113, e113, hx113_0, hx113_1⟩ := at_T35 HR0.out x5_1 p113 q113
   cases e113
   replace hx113_0 := zk HB.out hx113_0
   replace hx113_1 := zk HB.out hx113_1
   replace p113 := eq_true p113
   replace q113 := eq_true q113
   have hcz8_0 : wr.cell? ⟨gb112, 0, none⟩ = some (.int .i64 a1_0) := (blk_cell BK112.out 0).trans rfl
   have hcz8_1 : wr.cell? ⟨gb112, 1, none⟩ = some (.int .i64 a1_1) := (blk_cell BK112.out 1).trans rfl
   have hfz8_0 := blk_frozen BK112.out 0
   have hfz8_1 := blk_frozen BK112.out 1
   go_wp2
   repeat (go_quiet (fail); try go_wp2)
   go_roundg k1
   case measure => have := HK1.out; omega
   case rel => exact ⟨(wrap64 (x5_1 + 1)), zr, H', ⟨by have := HK1.out; omega⟩, ⟨mB_ BK112.out⟩, ⟨zs GE112.out⟩⟩
mutual
def spec_CornerCount.l0 : Nat → List (S35) → Int → List (S35) → Int → Option (Int × Int)
 | 0, _, _, _, _ => none
 | k + 1, x0, x4, x5, x6 => if x6 < (x0.length : Int) then (if 0 ≤ x6 then (spec_CornerCount.l1 k x0 x4 x5 x6 (([(⟨(rd_T35 x0 x6).f0, (rd_T35 x0 x6).f1⟩ : S35), (⟨wrap64 (((rd_T35 x0 x6).f0) + 1), (rd_T35 x0 x6).f1⟩ : S35), (⟨(rd_T35 x0 x6).f0, wrap64 (((rd_T35 x0 x6).f1) + 1)⟩ : S35), (⟨wrap64 (((rd_T35 x0 x6).f0) + 1), wrap64 (((rd_T35 x0 x6).f1) + 1)⟩ : S35)] : List (S35))) 0) else (none)) else (spec_CornerCount.l2 k x0 x4 x5 0)
def spec_CornerCount.l1 : Nat → List (S35) → Int → List (S35) → Int → List (S35) → Int → Option (Int × Int)
 | 0, _, _, _, _, _, _ => none
 | k + 1, x0, x4, x5, x6, x8, x9 => if x9 < 4 then (if 0 ≤ x9 then (if x9 < (x8.length : Int) then ((spec_l02Index.f k x5 ((rd_T35 x8 x9).f0) ((rd_T35 x8 x9).f1)).bind fun t124 => (if t124 < 0 then (if x5.length < 8796093022208 then (spec_CornerCount.l1 k x0 x4 (x5 ++ [(⟨(rd_T35 x8 x9).f0, (rd_T35 x8 x9).f1⟩ : S35)]) x6 x8 (wrap64 (x9 + 1))) else (none)) else (spec_CornerCount.l1 k x0 x4 x5 x6 x8 (wrap64 (x9 + 1))))) else (none)) else (none)) else (spec_CornerCount.l0 k x0 x4 x5 (wrap64 (x6 + 1)))
def spec_CornerCount.l2 : Nat → List (S35) → Int → List (S35) → Int → Option (Int × Int)
 | 0, _, _, _, _ => none
 | k + 1, x0, x4, x5, x10 => if x10 < (x5.length : Int) then (if 0 ≤ x10 then (spec_CornerCount.l3 k x0 x4 x5 x10 (([(⟨wrap64 (((rd_T35 x5 x10).f0) - 1), wrap64 (((rd_T35 x5 x10).f1) - 1)⟩ : S35), (⟨(rd_T35 x5 x10).f0, wrap64 (((rd_T35 x5 x10).f1) - 1)⟩ : S35), (⟨(rd_T35 x5 x10).f0, (rd_T35 x5 x10).f1⟩ : S35), (⟨wrap64 (((rd_T35 x5 x10).f0) - 1), (rd_T35 x5 x10).f1⟩ : S35)] : List (S35))) (([] : List Bool)) 0 0) else (none)) else (some (x4, 0))
def spec_CornerCount.l3 : Nat → List (S35) → Int → List (S35) → Int → List (S35) → List Bool → Int → Int → Option (Int × Int)
 | 0, _, _, _, _, _, _, _, _ => none
 | k + 1, x0, x4, x5, x10, x12, x13, x14, x15 => if x15 < 4 then (if 0 ≤ x15 then (if x15 < (x12.length : Int) then ((spec_l02Index.f k x0 ((rd_T35 x12 x15).f0) ((rd_T35 x12 x15).f1)).bind fun t138 => (if x13.length < 140737488355328 then ((some (x13 ++ [decide (t138 ≥ 0)] : List Bool)).bind fun y139 => (if t138 ≥ 0 then (spec_CornerCount.l3 k x0 x4 x5 x10 x12 y139 (wrap64 (x14 + 1)) (wrap64 (x15 + 1))) else (spec_CornerCount.l3 k x0 x4 x5 x10 x12 y139 x14 (wrap64 (x15 + 1))))) else (none))) else (none)) else (none)) else (if x14 = 1 then (spec_CornerCount.j4 k x0 x4 x5 x10 x13 x14 true) else (spec_CornerCount.j4 k x0 x4 x5 x10 x13 x14 (x14 == 3)))
def spec_CornerCount.j4 : Nat → List (S35) → Int → List (S35) → Int → List Bool → Int → Bool → Option (Int × Int)
 | 0, _, _, _, _, _, _, _ => none
 | k + 1, x0, x4, x5, x10, x13, x14, x124 => if x124 = true then (spec_CornerCount.l2 k x0 (wrap64 (x4 + 1)) x5 (wrap64 (x10 + 1))) else (if x14 = 2 then (if 0 < (x13.length : Int) then (if 2 < (x13.length : Int) then (if ((rdOf false x13 0) == (rdOf false x13 2)) = true then (spec_CornerCount.l2 k x0 (wrap64 (x4 + 2)) x5 (wrap64 (x10 + 1))) else (spec_CornerCount.l2 k x0 x4 x5 (wrap64 (x10 + 1)))) else (none)) else (none)) else (spec_CornerCount.l2 k x0 x4 x5 (wrap64 (x10 + 1))))
end
def spec_CornerCount.f (k : Nat) (l0 : List (S35)) : Option (Int × Int) := (spec_IsShape.f k l0).bind fun t114 => (if t114 = true then (spec_CornerCount.l0 k l0 0 (([] : List (S35))) 0) else (some (0, 1)))
end Go.Proofs.Ytpoiiaephcddoaa.F
end
