/- Proved: for every surface (its numbers and heights of Go's kinds) the law FnExactIsValidSurface comes to true. -/
import Derived.Test.YtgojidjfidldbaaQxlawsFnExactIsValidSurface
import Derived.Test.YtgojidjfidldbaaQo
import Derived.Test.YtgojidjfidldbaaPs
namespace Go.Proofs.Ytgojidjfidldbaa.Pure
open Go.RowKit Go.Proofs.Ytgojidjfidldbaa.Q Go.Proofs.YtgojidjfidldbaaW.PrintWords Go.Proofs.YtgojidjfidldbaaW.PrintLast Go.Proofs.Ytgojidjfidldbaa.Pl Go.Proofs.Ytgojidjfidldbaa.Ps

theorem FnExactIsValidSurface : ∀ (x0 : S24), wf24 x0 → ∃ k, laws_FnExactIsValidSurface.f k x0.f0 x0.f1 x0.f2 = some true := by
  intro x hw
  obtain ⟨_, _, hl, _⟩ := hw
  refine Ev.rounds ?_
  unfold laws_FnExactIsValidSurface.f spec_IsValidSurface.f
  obtain ⟨t, ht, hb⟩ := szSurface x.f0 x.f1 x.f2 hl
  refine Ev.bindC ht (Ev.ite (fun _ => Ev.now _) (fun hn => ?_))
  have hb := hb (by omega)
  have hb2 : x.f2.length ≤ 9223372036854775807 := by omega
  refine Ev.bind (toSurface _ _ _ hb) ?_
  refine Ev.bind (Ev.bind (specGood _ _ _ hb2) (Ev.now _)) ?_
  refine Ev.bind (toSurface _ _ _ hb) ?_
  refine Ev.bind (implGood _ _ _ hb2) ?_
  refine Ev.neg (by simp) ?_
  refine Ev.bind (toSurface _ _ _ hb) ?_
  exact Ev.bind (eqSurface _ _ _ hb) (Ev.pos rfl (Ev.now _))

end Go.Proofs.Ytgojidjfidldbaa.Pure
