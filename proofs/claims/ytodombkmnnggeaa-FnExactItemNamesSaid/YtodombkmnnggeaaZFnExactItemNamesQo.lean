-- Written by a program of this session's for these claims. Lean checks it.
import Derived.Test.YtodombkmnnggeaaZFnExactItemNamesQx0
import Derived.Test.YtodombkmnnggeaaZFnExactItemNamesOpn
import Derived.KernelRfl
namespace Go.Proofs.Ytodombkmnnggeaa.Q
open Go.ChangeShapes Go.WideShapes Go.RowKit Go.Proofs.YtodombkmnnggeaaW.PrintWords Go.Proofs.Ytodombkmnnggeaa.Opn
set_option maxRecDepth 100000
def wf67 (x : S67) : Prop := (Lit.int .i64 x.f0).wf = true ∧ x.f1.size ≤ maxLen ∧ x.f2.size ≤ maxLen
theorem opens67 : Opens Try.prog 67 k67 wf67 := by
  have h := opens_iso (β := S67) (fun x : S67 => (x.f0, x.f1, x.f2)) (fun p => ⟨p.1, p.2.1, p.2.2⟩) (fun _ => rfl) (opens_struct Try.underlying67 (by kernel_rfl) (opensL_cons rfl (opens_int Try.underlying3 (by kernel_rfl)) (opensL_cons rfl (opens_string Try.underlying9 (by kernel_rfl)) (opensL_one rfl (opens_string Try.underlying9 (by kernel_rfl))))))
  exact h.weaken (fun _ h => h)
end Go.Proofs.Ytodombkmnnggeaa.Q
