import Derived.KernelRfl
import Derived.Test.YtpjioedfiigefaaOpen
import Derived.Test.YtpjioedfiigefaaFx0
namespace Go.Proofs.Ytpjioedfiigefaa.F
open Go.RowKit Go.Proofs.YtpjioedfiigefaaW.PrintWords Go.Proofs.Ytpjioedfiigefaa.Open
instance : Inhabited S70 := ⟨⟨default, default⟩⟩
def V70 : S70 → Prop := fun a => (fun a => (Lit.int .i64 a).wf = true) a.f0 ∧ (fun a => (Lit.int .i64 a).wf = true) a.f1
theorem O70 : Opens Try.prog k70 70 V70 :=
  Opens.struct2 (fun x : S70 => (x.f0, x.f1)) (fun a b => ⟨a, b⟩) (fun _ _ => rfl) Try.underlying70 rfl rfl (by kernel_rfl) (by kernel_rfl) (by kernel_rfl) (Opens.int Try.underlying2) (Opens.int Try.underlying2)
instance : Inhabited S41 := ⟨⟨default, default, default⟩⟩
def V41 : S41 → Prop := fun a => (fun l => l.length ≤ 9223372036854775807 ∧ ∀ a ∈ l, V70 a) a.f0 ∧ (fun a => (Lit.int .i64 a).wf = true) a.f1 ∧ (fun _ => True) a.f2
theorem st41_open {w : World} {x : S41} {cs : List Value} (h : k41.K w x cs) : ∃ (A0 : Option Addr) (c0 : Nat), cs = [.slice A0 x.f0.length c0, .int .i64 x.f1, .bool x.f2] ∧ x.f0.length ≤ c0 ∧ Kd.C k70 w A0 x.f0.length x.f0 := by
  obtain ⟨_, _, rfl, h0, _, _, rfl, h1, h2⟩ := h
  obtain ⟨A0, c0, rfl, l0, r0⟩ := h0
  obtain rfl := h1
  obtain rfl := h2
  exact ⟨A0, c0, rfl, l0, r0⟩
theorem O41 : Opens Try.prog k41 41 V41 :=
  Opens.struct3 (fun x : S41 => (x.f0, x.f1, x.f2)) (fun a b c => ⟨a, b, c⟩) (fun _ _ _ => rfl) Try.underlying41 rfl rfl rfl (by kernel_rfl) (by kernel_rfl) (by kernel_rfl) (by kernel_rfl) (Opens.slice Try.underlying22 (by kernel_rfl) O70) (Opens.int Try.underlying2) (Opens.bool Try.underlying4)
end Go.Proofs.Ytpjioedfiigefaa.F
