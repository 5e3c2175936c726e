import Derived.KernelRfl
import Derived.Test.YtnohbmnoioikbaaOpen
import Derived.Test.YtnohbmnoioikbaaFx0
namespace Go.Proofs.Ytnohbmnoioikbaa.F
open Go.RowKit Go.Proofs.YtnohbmnoioikbaaW.PrintWords Go.Proofs.Ytnohbmnoioikbaa.Open
instance : Inhabited S57 := ⟨⟨default, default⟩⟩
def V57 : S57 → Prop := fun a => (fun a => (Lit.int .i64 a).wf = true) a.f0 ∧ (fun a => (Lit.int .i64 a).wf = true) a.f1
theorem O57 : Opens Try.prog k57 57 V57 :=
  Opens.struct2 (fun x : S57 => (x.f0, x.f1)) (fun a b => ⟨a, b⟩) (fun _ _ => rfl) Try.underlying57 rfl rfl (by kernel_rfl) (by kernel_rfl) (by kernel_rfl) (Opens.int Try.underlying2) (Opens.int Try.underlying2)
end Go.Proofs.Ytnohbmnoioikbaa.F
