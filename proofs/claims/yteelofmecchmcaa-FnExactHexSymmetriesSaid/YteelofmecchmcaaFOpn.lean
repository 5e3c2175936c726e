import Derived.KernelRfl
import Derived.Test.YteelofmecchmcaaOpen
import Derived.Test.YteelofmecchmcaaFx0
namespace Go.Proofs.Yteelofmecchmcaa.F
open Go.RowKit Go.Proofs.YteelofmecchmcaaW.PrintWords Go.Proofs.Yteelofmecchmcaa.Open
instance : Inhabited S23 := ⟨⟨default, default⟩⟩
def V23 : S23 → Prop := fun a => (fun a => (Lit.int .i64 a).wf = true) a.f0 ∧ (fun a => (Lit.int .i64 a).wf = true) a.f1
theorem O23 : Opens Try.prog k23 23 V23 :=
  Opens.struct2 (fun x : S23 => (x.f0, x.f1)) (fun a b => ⟨a, b⟩) (fun _ _ => rfl) Try.underlying23 rfl rfl (by kernel_rfl) (by kernel_rfl) (by kernel_rfl) (Opens.int Try.underlying2) (Opens.int Try.underlying2)
end Go.Proofs.Yteelofmecchmcaa.F
