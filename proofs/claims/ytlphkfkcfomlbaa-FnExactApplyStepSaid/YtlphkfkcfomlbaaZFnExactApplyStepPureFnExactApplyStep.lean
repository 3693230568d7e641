/- Proved: for every row of samples and every step the law FnExactApplyStep comes to true. -/
import Derived.Test.YtlphkfkcfomlbaaZFnExactApplyStepB5
import Derived.Test.YtlphkfkcfomlbaaZFnExactApplyStepQo
import Derived.Test.YtlphkfkcfomlbaaZFnExactApplyStepPau
import Derived.Test.YtlphkfkcfomlbaaZFnExactApplyStepPmk
namespace Go.Proofs.Ytlphkfkcfomlbaa.Pure
open Go.RowKit Go.Proofs.Ytlphkfkcfomlbaa.Q Go.Proofs.YtlphkfkcfomlbaaW.PrintWords Go.Proofs.YtlphkfkcfomlbaaW.PrintLast Go.Proofs.Ytlphkfkcfomlbaa.Pl Go.Proofs.Ytlphkfkcfomlbaa.Pm

theorem FnExactApplyStep : ∀ (x0 : List S95) (x1 : S73), (x0.length ≤ maxLen ∧ ∀ y2 ∈ x0, wf95 y2) → wf73 x1 → ∃ k, laws_FnExactApplyStep.f k x0 x1.f0 x1.f1 x1.f2 x1.f3 = some true := by
  intro x s hw hs
  obtain ⟨_, _, _, hs3⟩ := hs
  unfold maxLen at hs3
  refine Ev.rounds ?_
  unfold laws_FnExactApplyStep.f laws_szStep.f
  obtain ⟨t, ht, hb⟩ := szSampleS x hw
  refine Ev.bind ht (Ev.ite (fun _ => Ev.now _) (fun hn => ?_))
  have hb := hb (by omega)
  have ho := okS_of hw.2 hb
  obtain ⟨⟨out, ok⟩, hl, h1, h2⟩ := applyStep _ ho s.f0 s.f1 s.f2 s.f3 (by omega)
  have hl : out.length ≤ 16 := hl
  have rest : Ev (fun k => (laws_toSampleS.f k x).bind fun t104 => ((laws_toStep.f s.f0 s.f1 s.f2 s.f3).bind fun bt107 => ((spec_ApplyStep.f k t104 bt107.1 bt107.2.1 bt107.2.2.1 bt107.2.2.2).bind fun bt111 => ((laws_toSampleS.f k x).bind fun t115 => ((laws_toStep.f s.f0 s.f1 s.f2 s.f3).bind fun bt118 => ((impl_ApplyStep.f k t115 bt118.1 bt118.2.1 bt118.2.2.1 bt118.2.2.2).bind fun bt122 => ((laws_eqSampleS.f k bt122.1 bt111.1).bind fun t126 => (if t126 = true then (laws_FnExactApplyStep.j0 k x bt111.1 bt111.2 t115 bt122.1 bt122.2 (bt122.2 != bt111.2) s.f0 s.f1 s.f2 s.f3) else (laws_FnExactApplyStep.j0 k x bt111.1 bt111.2 t115 bt122.1 bt122.2 true s.f0 s.f1 s.f2 s.f3)))))))) ) true := by
    refine Ev.bind (toSampleS x hb) (Ev.bindC rfl (Ev.bind h1 (Ev.bind (toSampleS x hb) (Ev.bindC rfl (Ev.bind h2 (Ev.bind (eqSampleS out (by omega)) (Ev.pos rfl (Ev.succ ?_))))))))
    simp only [laws_FnExactApplyStep.j0]
    refine Ev.neg (by simp) (Ev.bind (toSampleS x hb) (Ev.bind (eqSampleS _ ho.1) (Ev.pos rfl (Ev.bind (markX _ 1 (by have := ho.1; omega) (by omega) (by omega)) ?_))))
    refine Ev.neg (by simp; omega) (Ev.bind (eqSampleS out (by omega)) (Ev.pos rfl (Ev.succ ?_)))
    simp only [laws_FnExactApplyStep.j1]
    refine Ev.neg (by simp) (Ev.bind (markX out 1 (by omega) (by omega) (by omega)) (Ev.bind (heldX 1 out.length (by omega) (by omega) (by omega)) ?_))
    refine Ev.neg (by omega) (Ev.pos rfl (Ev.bind (toSampleS x hb) (Ev.bindC rfl (Ev.bind h2 (Ev.bind (eqSampleS out (by omega)) (Ev.pos rfl (Ev.succ ?_)))))))
    simp only [laws_FnExactApplyStep.j2]
    refine Ev.neg (by simp) (Ev.bind (heldX 1 out.length (by omega) (by omega) (by omega)) ?_)
    exact Ev.neg (by omega) (Ev.pos rfl (Ev.now _))
  by_cases hz : wrap64 (t - (s.f3.size : Int)) < 0
  · simp only [if_pos hz]
    exact Ev.bindC rfl (Ev.pos (by omega) (Ev.now _))
  · simp only [if_neg hz]
    exact Ev.bindC rfl (Ev.neg hz rest)
end Go.Proofs.Ytlphkfkcfomlbaa.Pure
