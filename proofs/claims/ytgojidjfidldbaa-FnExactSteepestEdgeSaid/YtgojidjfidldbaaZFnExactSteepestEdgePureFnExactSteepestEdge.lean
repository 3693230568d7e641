/- Proved: for every surface (its numbers and heights of Go's kinds) the law FnExactSteepestEdge comes to true. -/
import Derived.Test.YtgojidjfidldbaaZFnExactSteepestEdgeB3
import Derived.Test.YtgojidjfidldbaaZFnExactSteepestEdgeQo
import Derived.Test.YtgojidjfidldbaaZFnExactSteepestEdgePf
namespace Go.Proofs.Ytgojidjfidldbaa.Pure
open Go.RowKit Go.Proofs.Ytgojidjfidldbaa.Q Go.Proofs.YtgojidjfidldbaaW.PrintWords Go.Proofs.YtgojidjfidldbaaW.PrintLast Go.Proofs.Ytgojidjfidldbaa.Pl Go.Proofs.Ytgojidjfidldbaa.Ps Go.Proofs.Ytgojidjfidldbaa.Pf

theorem FnExactSteepestEdge : ∀ (x0 : S24), wf24 x0 → ∃ k, laws_FnExactSteepestEdge.f k x0.f0 x0.f1 x0.f2 = some true := by
  intro x hw
  obtain ⟨_, _, hl, _⟩ := hw
  refine Ev.rounds ?_
  unfold laws_FnExactSteepestEdge.f
  obtain ⟨t, ht, hb⟩ := szSurface x.f0 x.f1 x.f2 hl
  refine Ev.bindC ht (Ev.ite (fun _ => Ev.now _) (fun hn => ?_))
  have hb := hb (by omega)
  obtain ⟨⟨p, q, m, ok⟩, _, h1, h2⟩ := steepest x.f0 x.f1 x.f2 (by omega)
  refine Ev.bind (toSurface _ _ _ hb) (Ev.bind h1 (Ev.bind (toSurface _ _ _ hb) (Ev.bind h2 ?_)))
  refine Ev.pos rfl (Ev.pos rfl (Ev.pos rfl (Ev.succ ?_)))
  simp only [laws_FnExactSteepestEdge.j0]
  refine Ev.neg (by simp) (Ev.bind (toSurface _ _ _ hb) ?_)
  exact Ev.bind (eqSurface _ _ _ hb) (Ev.pos rfl (Ev.now _))

end Go.Proofs.Ytgojidjfidldbaa.Pure
