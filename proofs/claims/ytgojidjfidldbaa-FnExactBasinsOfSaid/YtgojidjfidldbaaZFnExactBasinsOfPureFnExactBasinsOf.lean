/- Proved: for every surface (numbers of Go's kinds) the law FnExactBasinsOf comes to true. -/
import Derived.Test.YtgojidjfidldbaaZFnExactBasinsOfB2
import Derived.Test.YtgojidjfidldbaaZFnExactBasinsOfQo
import Derived.Test.YtgojidjfidldbaaZFnExactBasinsOfPg
namespace Go.Proofs.Ytgojidjfidldbaa.Pure
open Go.RowKit Go.Proofs.Ytgojidjfidldbaa.Q Go.Proofs.YtgojidjfidldbaaW.PrintWords Go.Proofs.YtgojidjfidldbaaW.PrintLast Go.Proofs.Ytgojidjfidldbaa.Pl Go.Proofs.Ytgojidjfidldbaa.Pi Go.Proofs.Ytgojidjfidldbaa.Ps Go.Proofs.Ytgojidjfidldbaa.Pg

theorem FnExactBasinsOf : ∀ (x0 : S24), wf24 x0 → ∃ k, laws_FnExactBasinsOf.f k x0.f0 x0.f1 x0.f2 = some true := by
  intro x hw
  obtain ⟨_, _, hl, _⟩ := hw
  refine Ev.rounds ?_
  unfold laws_FnExactBasinsOf.f
  obtain ⟨t, ht, hb⟩ := szSurface x.f0 x.f1 x.f2 hl
  refine Ev.bindC ht (Ev.ite (fun _ => Ev.now _) (fun hn => ?_))
  have hb := hb (by omega)
  obtain ⟨⟨out, ok⟩, ho, h1, h2⟩ := basinsOf x.f0 x.f1 x.f2 hb
  have ho : out.length ≤ 64 := ho
  refine Ev.bind (toSurface _ _ _ hb) (Ev.bind h1 (Ev.bind (toSurface _ _ _ hb) (Ev.bind h2 (Ev.bind (eqIntS out (by omega)) (Ev.pos rfl (Ev.succ ?_))))))
  simp only [laws_FnExactBasinsOf.j0]
  refine Ev.neg (by simp) (Ev.bind (toSurface _ _ _ hb) (Ev.bind (eqSurface _ _ _ hb) (Ev.pos rfl (Ev.bind (markSurface _ _ _ hb) ?_))))
  refine Ev.neg (by simp; omega) (Ev.bind (eqIntS out (by omega)) (Ev.pos rfl (Ev.succ ?_)))
  simp only [laws_FnExactBasinsOf.j1]
  refine Ev.neg (by simp) (Ev.bind (markIntS out 1 (by omega) (by omega) (by omega)) (Ev.bind (heldIntS 1 out.length (by omega) (by omega) (by omega)) ?_))
  refine Ev.neg (by omega) (Ev.pos rfl (Ev.bind (toSurface _ _ _ hb) (Ev.bind h2 (Ev.bind (eqIntS out (by omega)) (Ev.pos rfl (Ev.succ ?_))))))
  simp only [laws_FnExactBasinsOf.j2]
  refine Ev.neg (by simp) (Ev.bind (heldIntS 1 out.length (by omega) (by omega) (by omega)) ?_)
  exact Ev.neg (by omega) (Ev.pos rfl (Ev.now _))

end Go.Proofs.Ytgojidjfidldbaa.Pure
