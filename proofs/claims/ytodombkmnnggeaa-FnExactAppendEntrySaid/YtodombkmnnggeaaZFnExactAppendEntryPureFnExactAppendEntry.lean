/- Proved: for every register and every entry the law FnExactAppendEntry comes to true. -/
import Derived.Test.YtodombkmnnggeaaZFnExactAppendEntryB5
import Derived.Test.YtodombkmnnggeaaZFnExactAppendEntryQo
import Derived.Test.YtodombkmnnggeaaZFnExactAppendEntryPrl
namespace Go.Proofs.Ytodombkmnnggeaa.Pure
open Go.RowKit Go.Proofs.Ytodombkmnnggeaa.Q Go.Proofs.YtodombkmnnggeaaW.PrintWords Go.Proofs.YtodombkmnnggeaaW.PrintLast Go.Proofs.Ytodombkmnnggeaa.Pl Go.Proofs.Ytodombkmnnggeaa.Pr Go.Proofs.Ytodombkmnnggeaa.Pp

theorem FnExactAppendEntry : ∀ (x0 : List S67) (x1 : S67), (x0.length ≤ maxLen ∧ ∀ y2 ∈ x0, wf67 y2) → wf67 x1 → ∃ k, laws_FnExactAppendEntry.f k x0 x1.f0 x1.f1 x1.f2 = some true := by
  intro x e hw he
  refine Ev.rounds ?_
  unfold laws_FnExactAppendEntry.f
  obtain ⟨t, ht, ht1, hb⟩ := szEntryS x hw
  refine Ev.bind ht (Ev.ite (fun _ => Ev.now _) (fun hn => ?_))
  have hb := hb (by omega)
  have ho := okE_of hw.2 hb
  obtain ⟨u, hu, _⟩ := szEntry e t he (by omega) ht1
  refine Ev.bindC hu (Ev.ite (fun _ => Ev.now _) (fun _ => ?_))
  obtain ⟨_, s1, s2⟩ := he
  unfold maxLen at s1 s2
  obtain ⟨⟨out, ok⟩, hl, h1, h2⟩ := appendEntry _ e.f0 e.f1 e.f2 ho (by simpa using hb) (by omega) (by omega)
  have hl : out.length ≤ 1048577 := hl
  refine Ev.bind (toEntryS x hb) (Ev.bindC rfl (Ev.bind h1 (Ev.bind (toEntryS x hb) (Ev.bindC rfl (Ev.bind h2 (Ev.bind (eqEntryS out hl) (Ev.pos rfl (Ev.succ ?_))))))))
  simp only [laws_FnExactAppendEntry.j0]
  refine Ev.neg (by simp) (Ev.bind (toEntryS x hb) (Ev.bind (eqEntryS _ ho.1) (Ev.pos rfl (Ev.bind (markEntryS _ 1 ho.1 (by omega) (by omega)) ?_))))
  refine Ev.neg (by simp; omega) (Ev.bind (eqEntryS out (by omega)) (Ev.pos rfl (Ev.succ ?_)))
  simp only [laws_FnExactAppendEntry.j1]
  refine Ev.neg (by simp) (Ev.bind (markEntryS out 1 (by omega) (by omega) (by omega)) (Ev.bind (heldEntryS 1 out.length (by omega) (by omega) (by omega)) ?_))
  refine Ev.neg (by omega) (Ev.pos rfl (Ev.bind (toEntryS x hb) (Ev.bindC rfl (Ev.bind h2 (Ev.bind (eqEntryS out (by omega)) (Ev.pos rfl (Ev.succ ?_)))))))
  simp only [laws_FnExactAppendEntry.j2]
  refine Ev.neg (by simp) (Ev.bind (heldEntryS 1 out.length (by omega) (by omega) (by omega)) ?_)
  exact Ev.neg (by omega) (Ev.pos rfl (Ev.now _))
end Go.Proofs.Ytodombkmnnggeaa.Pure
