/- Proved: for every row of samples and every number the law FnExactLeftOf comes to true. -/
import Derived.Test.YtlphkfkcfomlbaaZFnExactLeftOfB3
import Derived.Test.YtlphkfkcfomlbaaZFnExactLeftOfQo
import Derived.Test.YtlphkfkcfomlbaaZFnExactLeftOfPw
namespace Go.Proofs.Ytlphkfkcfomlbaa.Pure
open Go.RowKit Go.Proofs.Ytlphkfkcfomlbaa.Q Go.Proofs.YtlphkfkcfomlbaaW.PrintWords Go.Proofs.YtlphkfkcfomlbaaW.PrintLast Go.Proofs.Ytlphkfkcfomlbaa.Pl Go.Proofs.Ytlphkfkcfomlbaa.Pm

theorem FnExactLeftOf : ∀ (x0 : List S95) (x1 : Int), (x0.length ≤ maxLen ∧ ∀ x ∈ x0, wf95 x) → (Lit.int .i64 x1).wf = true → ∃ k, laws_FnExactLeftOf.f k x0 x1 = some true := by
  intro x n hw _
  refine Ev.rounds ?_
  unfold laws_FnExactLeftOf.f
  obtain ⟨t, ht, hb⟩ := szSampleS x hw
  refine Ev.bind ht (Ev.ite (fun _ => Ev.now _) (fun hn => ?_))
  have hb := hb (by omega)
  have ho := okS_of hw.2 hb
  obtain ⟨⟨a, b, ok⟩, _, h1, h2⟩ := Pm.leftOf _ n ho
  refine Ev.bind (toSampleS x hb) (Ev.bind h1 (Ev.bind (toSampleS x hb) (Ev.bind h2 ?_)))
  refine Ev.pos rfl (Ev.pos rfl (Ev.succ ?_))
  simp only [laws_FnExactLeftOf.j0]
  refine Ev.neg (by simp) ?_
  exact Ev.bind (toSampleS x hb) (Ev.bind (eqSampleS _ ho.1) (Ev.pos rfl (Ev.now _)))
end Go.Proofs.Ytlphkfkcfomlbaa.Pure
