/- Proved: for every row of samples (numbers and texts of Go's kinds) the law FnExactIsValidSamples comes to true. -/
import Derived.Test.YtlphkfkcfomlbaaZFnExactIsValidSamplesB3
import Derived.Test.YtlphkfkcfomlbaaZFnExactIsValidSamplesQo
import Derived.Test.YtlphkfkcfomlbaaZFnExactIsValidSamplesPv
namespace Go.Proofs.Ytlphkfkcfomlbaa.Pure
open Go.RowKit Go.Proofs.Ytlphkfkcfomlbaa.Q Go.Proofs.YtlphkfkcfomlbaaW.PrintWords Go.Proofs.YtlphkfkcfomlbaaW.PrintLast Go.Proofs.Ytlphkfkcfomlbaa.Pl Go.Proofs.Ytlphkfkcfomlbaa.Pm

theorem FnExactIsValidSamples : ∀ (x0 : List S95), (x0.length ≤ maxLen ∧ ∀ x ∈ x0, wf95 x) → ∃ k, laws_FnExactIsValidSamples.f k x0 = some true := by
  intro x hw
  refine Ev.rounds ?_
  unfold laws_FnExactIsValidSamples.f spec_IsValidSamples.f
  obtain ⟨t, ht, hb⟩ := szSampleS x hw
  refine Ev.bind ht (Ev.ite (fun _ => Ev.now _) (fun hn => ?_))
  have hb := hb (by omega)
  have ho := okS_of hw.2 hb
  refine Ev.bind (toSampleS x hb) ?_
  refine Ev.bind (Ev.bind (specGood' _ ho) (Ev.now _)) ?_
  refine Ev.bind (toSampleS x hb) (Ev.bind (implGood _ ho) ?_)
  refine Ev.neg (by simp) ?_
  exact Ev.bind (toSampleS x hb) (Ev.bind (eqSampleS _ ho.1) (Ev.pos rfl (Ev.now _)))
end Go.Proofs.Ytlphkfkcfomlbaa.Pure
