import Derived.KernelRfl
import Derived.Test.YthgkgimjepbegaaOpen
import Derived.Test.YthgkgimjepbegaaFx0
namespace Go.Proofs.Ythgkgimjepbegaa.F
open Go.RowKit Go.Proofs.YthgkgimjepbegaaW.PrintWords Go.Proofs.Ythgkgimjepbegaa.Open
instance : Inhabited S64 := ⟨⟨default, default, default⟩⟩
def V64 : S64 → Prop := fun a => (fun a => (Lit.int .i64 a).wf = true) a.f0 ∧ (fun a => (Lit.int .i64 a).wf = true) a.f1 ∧ (fun a => (Lit.int .i64 a).wf = true) a.f2
theorem O64 : Opens Try.prog k64 64 V64 :=
  Opens.struct3 (fun x : S64 => (x.f0, x.f1, x.f2)) (fun a b c => ⟨a, b, c⟩) (fun _ _ _ => rfl) Try.underlying64 rfl rfl rfl (by kernel_rfl) (by kernel_rfl) (by kernel_rfl) (by kernel_rfl) (Opens.int Try.underlying2) (Opens.int Try.underlying2) (Opens.int Try.underlying2)
end Go.Proofs.Ythgkgimjepbegaa.F
