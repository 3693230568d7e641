-- Written by a program of this session's for these claims. Lean checks it.
import Derived.Test.YtgojidjfidldbaaZFnExactPrecedesQx0
import Derived.Test.YtgojidjfidldbaaZFnExactPrecedesOpn
import Derived.KernelRfl
namespace Go.Proofs.Ytgojidjfidldbaa.Q
open Go.ChangeShapes Go.WideShapes Go.RowKit Go.Proofs.YtgojidjfidldbaaW.PrintWords Go.Proofs.Ytgojidjfidldbaa.Opn
set_option maxRecDepth 100000
def wf24 (x : S24) : Prop := (Lit.int .i64 x.f0).wf = true ∧ (Lit.int .i64 x.f1).wf = true ∧ (x.f2.length ≤ maxLen ∧ ∀ y4 ∈ x.f2, (Lit.int .i64 y4).wf = true)
theorem opens24 : Opens Try.prog 24 k24 wf24 := by
  have h := opens_iso (β := S24) (fun x : S24 => (x.f0, x.f1, x.f2)) (fun p => ⟨p.1, p.2.1, p.2.2⟩) (fun _ => rfl) (opens_struct Try.underlying24 (by kernel_rfl) (opensL_cons rfl (opens_int Try.underlying3 (by kernel_rfl)) (opensL_cons rfl (opens_int Try.underlying3 (by kernel_rfl)) (opensL_one rfl (opens_slice Try.underlying22 (by kernel_rfl) (opens_int Try.underlying3 (by kernel_rfl)))))))
  exact h.weaken (fun _ h => h)
def wf32 (x : S32) : Prop := (Lit.int .i64 x.f0).wf = true ∧ (Lit.int .i64 x.f1).wf = true ∧ (x.f2.length ≤ maxLen ∧ ∀ y4 ∈ x.f2, (Lit.int .i64 y4).wf = true) ∧ x.f3.size ≤ maxLen ∧ x.f4.size ≤ maxLen
theorem opens32 : Opens Try.prog 32 k32 wf32 := by
  have h := opens_iso (β := S32) (fun x : S32 => (x.f0, x.f1, x.f2, x.f3, x.f4)) (fun p => ⟨p.1, p.2.1, p.2.2.1, p.2.2.2.1, p.2.2.2.2⟩) (fun _ => rfl) (opens_struct Try.underlying32 (by kernel_rfl) (opensL_cons rfl (opens_int Try.underlying3 (by kernel_rfl)) (opensL_cons rfl (opens_int Try.underlying3 (by kernel_rfl)) (opensL_cons rfl (opens_slice Try.underlying22 (by kernel_rfl) (opens_int Try.underlying3 (by kernel_rfl))) (opensL_cons rfl (opens_string Try.underlying9 (by kernel_rfl)) (opensL_one rfl (opens_string Try.underlying9 (by kernel_rfl))))))))
  exact h.weaken (fun _ h => h)
end Go.Proofs.Ytgojidjfidldbaa.Q
