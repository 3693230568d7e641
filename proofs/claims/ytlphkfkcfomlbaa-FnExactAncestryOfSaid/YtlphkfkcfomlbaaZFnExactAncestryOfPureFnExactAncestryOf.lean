/- Proved: for every row of samples and every number the law FnExactAncestryOf comes to true. -/
import Derived.Test.YtlphkfkcfomlbaaZFnExactAncestryOfB4
import Derived.Test.YtlphkfkcfomlbaaZFnExactAncestryOfQo
import Derived.Test.YtlphkfkcfomlbaaZFnExactAncestryOfPw
import Derived.Test.YtlphkfkcfomlbaaZFnExactAncestryOfPe
namespace Go.Proofs.Ytlphkfkcfomlbaa.Pure
open Go.RowKit Go.Proofs.Ytlphkfkcfomlbaa.Q Go.Proofs.YtlphkfkcfomlbaaW.PrintWords Go.Proofs.YtlphkfkcfomlbaaW.PrintLast Go.Proofs.Ytlphkfkcfomlbaa.Pl Go.Proofs.Ytlphkfkcfomlbaa.Pi Go.Proofs.Ytlphkfkcfomlbaa.Pm

theorem FnExactAncestryOf : ∀ (x0 : List S95) (x1 : Int), (x0.length ≤ maxLen ∧ ∀ x ∈ x0, wf95 x) → (Lit.int .i64 x1).wf = true → ∃ k, laws_FnExactAncestryOf.f k x0 x1 = some true := by
  intro x n hw _
  refine Ev.rounds ?_
  unfold laws_FnExactAncestryOf.f
  obtain ⟨t, ht, hb⟩ := szSampleS x hw
  refine Ev.bind ht (Ev.ite (fun _ => Ev.now _) (fun hn => ?_))
  have hb := hb (by omega)
  have ho := okS_of hw.2 hb
  obtain ⟨⟨out, ok⟩, hl, h1, h2⟩ := Pm.ancestryOf _ n ho
  have hl : out.length ≤ 16 := hl
  obtain ⟨m, hm, h3⟩ := markSampleS (x.map toS) ho.1
  refine Ev.bind (toSampleS x hb) (Ev.bind h1 (Ev.bind (toSampleS x hb) (Ev.bind h2 (Ev.bind (eqIntS out (by omega)) (Ev.pos rfl (Ev.succ ?_))))))
  simp only [laws_FnExactAncestryOf.j0]
  refine Ev.neg (by simp) (Ev.bind (toSampleS x hb) (Ev.bind (eqSampleS _ ho.1) (Ev.pos rfl (Ev.bind h3 ?_))))
  refine Ev.neg (by omega) (Ev.bind (eqIntS out (by omega)) (Ev.pos rfl (Ev.succ ?_)))
  simp only [laws_FnExactAncestryOf.j1]
  refine Ev.neg (by simp) (Ev.bind (markIntS out 1 (by omega) (by omega) (by omega)) (Ev.bind (heldIntS 1 out.length (by omega) (by omega) (by omega)) ?_))
  refine Ev.neg (by omega) (Ev.pos rfl (Ev.bind (toSampleS x hb) (Ev.bind h2 (Ev.bind (eqIntS out (by omega)) (Ev.pos rfl (Ev.succ ?_))))))
  simp only [laws_FnExactAncestryOf.j2]
  refine Ev.neg (by simp) (Ev.bind (heldIntS 1 out.length (by omega) (by omega) (by omega)) ?_)
  exact Ev.neg (by omega) (Ev.pos rfl (Ev.now _))
end Go.Proofs.Ytlphkfkcfomlbaa.Pure
