/- Proved: for every register the law FnExactIsValidRegister comes to true. -/
import Derived.Test.YtodombkmnnggeaaZFnExactIsValidRegisterB3
import Derived.Test.YtodombkmnnggeaaZFnExactIsValidRegisterQo
import Derived.Test.YtodombkmnnggeaaZFnExactIsValidRegisterPrl
namespace Go.Proofs.Ytodombkmnnggeaa.Pure
open Go.RowKit Go.Proofs.Ytodombkmnnggeaa.Q Go.Proofs.YtodombkmnnggeaaW.PrintWords Go.Proofs.YtodombkmnnggeaaW.PrintLast Go.Proofs.Ytodombkmnnggeaa.Pl Go.Proofs.Ytodombkmnnggeaa.Pr Go.Proofs.Ytodombkmnnggeaa.Pp

theorem FnExactIsValidRegister : ∀ (x0 : List S67), (x0.length ≤ maxLen ∧ ∀ y2 ∈ x0, wf67 y2) → ∃ k, laws_FnExactIsValidRegister.f k x0 = some true := by
  intro x hw
  refine Ev.rounds ?_
  unfold laws_FnExactIsValidRegister.f spec_IsValidRegister.f
  obtain ⟨t, ht, ht1, hb⟩ := szEntryS x hw
  refine Ev.bind ht (Ev.ite (fun _ => Ev.now _) (fun hn => ?_))
  have hb := hb (by omega)
  have ho := okE_of hw.2 hb
  refine Ev.bind (toEntryS x hb) (Ev.bind (Ev.bind (specGood _ ho) (Ev.now _)) ?_)
  refine Ev.bind (toEntryS x hb) (Ev.bind (implValid _ ho) ?_)
  refine Ev.neg (by simp) ?_
  exact Ev.bind (toEntryS x hb) (Ev.bind (eqEntryS _ ho.1) (Ev.pos rfl (Ev.now _)))
end Go.Proofs.Ytodombkmnnggeaa.Pure
