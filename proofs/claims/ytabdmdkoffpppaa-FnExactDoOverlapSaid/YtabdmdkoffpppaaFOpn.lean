import Derived.KernelRfl
import Derived.Test.YtabdmdkoffpppaaOpen
import Derived.Test.YtabdmdkoffpppaaFx0
namespace Go.Proofs.Ytabdmdkoffpppaa.F
open Go.RowKit Go.Proofs.YtabdmdkoffpppaaW.PrintWords Go.Proofs.Ytabdmdkoffpppaa.Open
instance : Inhabited S24 := ⟨⟨default, default⟩⟩
def V24 : S24 → Prop := fun a => (fun a => (Lit.int .i64 a).wf = true) a.f0 ∧ (fun l => l.length ≤ 9223372036854775807 ∧ ∀ a ∈ l, (fun a => (Lit.int .i64 a).wf = true) a) a.f1
theorem st24_open {w : World} {x : S24} {cs : List Value} (h : k24.K w x cs) : ∃ (A1 : Option Addr) (c1 : Nat), cs = [.int .i64 x.f0, .slice A1 x.f1.length c1] ∧ x.f1.length ≤ c1 ∧ Kd.C (Kd.int .i64) w A1 x.f1.length x.f1 := by
  obtain ⟨_, _, rfl, h0, h1⟩ := h
  obtain rfl := h0
  obtain ⟨A1, c1, rfl, l1, r1⟩ := h1
  exact ⟨A1, c1, rfl, l1, r1⟩
theorem O24 : Opens Try.prog k24 24 V24 :=
  Opens.struct2 (fun x : S24 => (x.f0, x.f1)) (fun a b => ⟨a, b⟩) (fun _ _ => rfl) Try.underlying24 rfl rfl (by kernel_rfl) (by kernel_rfl) (by kernel_rfl) (Opens.int Try.underlying2) (Opens.slice Try.underlying22 (by kernel_rfl) (Opens.int Try.underlying2))
instance : Inhabited S88 := ⟨⟨default, default, default⟩⟩
def V88 : S88 → Prop := fun a => (fun a => (Lit.int .i64 a).wf = true) a.f0 ∧ (fun a => (Lit.int .i64 a).wf = true) a.f1 ∧ (fun a => (Lit.int .i64 a).wf = true) a.f2
theorem O88 : Opens Try.prog k88 88 V88 :=
  Opens.struct3 (fun x : S88 => (x.f0, x.f1, x.f2)) (fun a b c => ⟨a, b, c⟩) (fun _ _ _ => rfl) Try.underlying88 rfl rfl rfl (by kernel_rfl) (by kernel_rfl) (by kernel_rfl) (by kernel_rfl) (Opens.int Try.underlying2) (Opens.int Try.underlying2) (Opens.int Try.underlying2)
instance : Inhabited S95 := ⟨⟨default, default⟩⟩
def V95 : S95 → Prop := fun a => (fun a => (Lit.int .i64 a).wf = true) a.f0 ∧ (fun a => (Lit.int .i64 a).wf = true) a.f1
theorem O95 : Opens Try.prog k95 95 V95 :=
  Opens.struct2 (fun x : S95 => (x.f0, x.f1)) (fun a b => ⟨a, b⟩) (fun _ _ => rfl) Try.underlying95 rfl rfl (by kernel_rfl) (by kernel_rfl) (by kernel_rfl) (Opens.int Try.underlying2) (Opens.int Try.underlying2)
end Go.Proofs.Ytabdmdkoffpppaa.F
