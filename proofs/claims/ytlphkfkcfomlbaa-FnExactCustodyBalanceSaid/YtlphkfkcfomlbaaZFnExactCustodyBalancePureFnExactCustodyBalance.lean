/- Proved: for every row of samples the law FnExactCustodyBalance comes to true. -/
import Derived.Test.YtlphkfkcfomlbaaZFnExactCustodyBalanceB4
import Derived.Test.YtlphkfkcfomlbaaZFnExactCustodyBalanceQo
import Derived.Test.YtlphkfkcfomlbaaZFnExactCustodyBalancePw
namespace Go.Proofs.Ytlphkfkcfomlbaa.Pure
open Go.RowKit Go.Proofs.Ytlphkfkcfomlbaa.Q Go.Proofs.YtlphkfkcfomlbaaW.PrintWords Go.Proofs.YtlphkfkcfomlbaaW.PrintLast Go.Proofs.Ytlphkfkcfomlbaa.Pl Go.Proofs.Ytlphkfkcfomlbaa.Pm

theorem FnExactCustodyBalance : ∀ (x0 : List S95), (x0.length ≤ maxLen ∧ ∀ x ∈ x0, wf95 x) → ∃ k, laws_FnExactCustodyBalance.f k x0 = some true := by
  intro x hw
  refine Ev.rounds ?_
  unfold laws_FnExactCustodyBalance.f
  obtain ⟨t, ht, hb⟩ := szSampleS x hw
  refine Ev.bind ht (Ev.ite (fun _ => Ev.now _) (fun hn => ?_))
  have hb := hb (by omega)
  have ho := okS_of hw.2 hb
  obtain ⟨⟨a, b, c, ok⟩, _, h1, h2⟩ := custody _ ho
  refine Ev.bind (toSampleS x hb) (Ev.bind h1 (Ev.bind (toSampleS x hb) (Ev.bind h2 ?_)))
  refine Ev.pos rfl (Ev.pos rfl (Ev.pos rfl (Ev.succ ?_)))
  simp only [laws_FnExactCustodyBalance.j0]
  refine Ev.neg (by simp) ?_
  exact Ev.bind (toSampleS x hb) (Ev.bind (eqSampleS _ ho.1) (Ev.pos rfl (Ev.now _)))
end Go.Proofs.Ytlphkfkcfomlbaa.Pure
