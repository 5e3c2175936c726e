import Derived.KernelRfl
import Derived.Test.YtabdmdkoffpppaaOpen
import Derived.Test.YtabdmdkoffpppaaFx0
namespace Go.Proofs.Ytabdmdkoffpppaa.F
open Go.RowKit Go.Proofs.YtabdmdkoffpppaaW.PrintWords Go.Proofs.Ytabdmdkoffpppaa.Open
instance : Inhabited S88 := ⟨⟨default, default, default⟩⟩
def V88 : S88 → Prop := fun a => (fun a => (Lit.int .i64 a).wf = true) a.f0 ∧ (fun a => (Lit.int .i64 a).wf = true) a.f1 ∧ (fun a => (Lit.int .i64 a).wf = true) a.f2
theorem O88 : Opens Try.prog k88 88 V88 :=
  Opens.struct3 (fun x : S88 => (x.f0, x.f1, x.f2)) (fun a b c => ⟨a, b, c⟩) (fun _ _ _ => rfl) Try.underlying88 rfl rfl rfl (by kernel_rfl) (by kernel_rfl) (by kernel_rfl) (by kernel_rfl) (Opens.int Try.underlying2) (Opens.int Try.underlying2) (Opens.int Try.underlying2)
end Go.Proofs.Ytabdmdkoffpppaa.F
