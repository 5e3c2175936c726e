import Derived.KernelRfl
import Derived.Test.YtpblcdlpcgfhgaaOpen
import Derived.Test.YtpblcdlpcgfhgaaFx0
namespace Go.Proofs.Ytpblcdlpcgfhgaa.F
open Go.RowKit Go.Proofs.YtpblcdlpcgfhgaaW.PrintWords Go.Proofs.Ytpblcdlpcgfhgaa.Open
instance : Inhabited S72 := ⟨⟨default, default⟩⟩
def V72 : S72 → Prop := fun a => (fun a => (Lit.int .i64 a).wf = true) a.f0 ∧ (fun a => (Lit.int .i64 a).wf = true) a.f1
theorem O72 : Opens Try.prog k72 72 V72 :=
  Opens.struct2 (fun x : S72 => (x.f0, x.f1)) (fun a b => ⟨a, b⟩) (fun _ _ => rfl) Try.underlying72 rfl rfl (by kernel_rfl) (by kernel_rfl) (by kernel_rfl) (Opens.int Try.underlying2) (Opens.int Try.underlying2)
end Go.Proofs.Ytpblcdlpcgfhgaa.F
