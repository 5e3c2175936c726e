import Derived.KernelRfl
import Derived.Test.YtkbhkdnanoddoaaOpen
import Derived.Test.YtkbhkdnanoddoaaFx0
namespace Go.Proofs.Ytkbhkdnanoddoaa.F
open Go.RowKit Go.Proofs.YtkbhkdnanoddoaaW.PrintWords Go.Proofs.Ytkbhkdnanoddoaa.Open
instance : Inhabited S23 := ⟨⟨default, default⟩⟩
def V23 : S23 → Prop := fun a => (fun a => (Lit.int .i64 a).wf = true) a.f0 ∧ (fun a => (Lit.int .i64 a).wf = true) a.f1
theorem O23 : Opens Try.prog k23 23 V23 :=
  Opens.struct2 (fun x : S23 => (x.f0, x.f1)) (fun a b => ⟨a, b⟩) (fun _ _ => rfl) Try.underlying23 rfl rfl (by kernel_rfl) (by kernel_rfl) (by kernel_rfl) (Opens.int Try.underlying2) (Opens.int Try.underlying2)
instance : Inhabited S37 := ⟨⟨default, default⟩⟩
def V37 : S37 → Prop := fun a => (fun a => (Lit.int .i64 a).wf = true) a.f0 ∧ (fun l => l.length ≤ 9223372036854775807 ∧ ∀ a ∈ l, (fun a => (Lit.int .i64 a).wf = true) a) a.f1
theorem st37_open {w : World} {x : S37} {cs : List Value} (h : k37.K w x cs) : ∃ (A1 : Option Addr) (c1 : Nat), cs = [.int .i64 x.f0, .slice A1 x.f1.length c1] ∧ x.f1.length ≤ c1 ∧ Kd.C (Kd.int .i64) w A1 x.f1.length x.f1 := by
  obtain ⟨_, _, rfl, h0, h1⟩ := h
  obtain rfl := h0
  obtain ⟨A1, c1, rfl, l1, r1⟩ := h1
  exact ⟨A1, c1, rfl, l1, r1⟩
theorem O37 : Opens Try.prog k37 37 V37 :=
  Opens.struct2 (fun x : S37 => (x.f0, x.f1)) (fun a b => ⟨a, b⟩) (fun _ _ => rfl) Try.underlying37 rfl rfl (by kernel_rfl) (by kernel_rfl) (by kernel_rfl) (Opens.int Try.underlying2) (Opens.slice Try.underlying35 (by kernel_rfl) (Opens.int Try.underlying2))
instance : Inhabited S92 := ⟨⟨default, default, default⟩⟩
def V92 : S92 → Prop := fun a => (fun a => (Lit.int .i64 a).wf = true) a.f0 ∧ (fun a => (Lit.int .i64 a).wf = true) a.f1 ∧ (fun a => (Lit.int .i64 a).wf = true) a.f2
theorem O92 : Opens Try.prog k92 92 V92 :=
  Opens.struct3 (fun x : S92 => (x.f0, x.f1, x.f2)) (fun a b c => ⟨a, b, c⟩) (fun _ _ _ => rfl) Try.underlying92 rfl rfl rfl (by kernel_rfl) (by kernel_rfl) (by kernel_rfl) (by kernel_rfl) (Opens.int Try.underlying2) (Opens.int Try.underlying2) (Opens.int Try.underlying2)
end Go.Proofs.Ytkbhkdnanoddoaa.F
