/- Proved: for every register the law FnExactCompactRegister comes to true. -/
import Derived.Test.YtodombkmnnggeaaZFnExactCompactRegisterB4
import Derived.Test.YtodombkmnnggeaaZFnExactCompactRegisterQo
import Derived.Test.YtodombkmnnggeaaZFnExactCompactRegisterPrl
namespace Go.Proofs.Ytodombkmnnggeaa.Pure
open Go.RowKit Go.Proofs.Ytodombkmnnggeaa.Q Go.Proofs.YtodombkmnnggeaaW.PrintWords Go.Proofs.YtodombkmnnggeaaW.PrintLast Go.Proofs.Ytodombkmnnggeaa.Pl Go.Proofs.Ytodombkmnnggeaa.Pr Go.Proofs.Ytodombkmnnggeaa.Pp

theorem FnExactCompactRegister : ∀ (x0 : List S67), (x0.length ≤ maxLen ∧ ∀ y2 ∈ x0, wf67 y2) → ∃ k, laws_FnExactCompactRegister.f k x0 = some true := by
  intro x hw
  refine Ev.rounds ?_
  unfold laws_FnExactCompactRegister.f
  obtain ⟨t, ht, ht1, hb⟩ := szEntryS x hw
  refine Ev.bind ht (Ev.ite (fun _ => Ev.now _) (fun hn => ?_))
  have hb := hb (by omega)
  have ho := okE_of hw.2 hb
  obtain ⟨⟨out, ok⟩, hl, h1, h2⟩ := compact _ ho
  have hl : out.length ≤ 80 := hl
  refine Ev.bind (toEntryS x hb) (Ev.bind h1 (Ev.bind (toEntryS x hb) (Ev.bind h2 (Ev.bind (eqEntryS out (by omega)) (Ev.pos rfl (Ev.succ ?_))))))
  simp only [laws_FnExactCompactRegister.j0]
  refine Ev.neg (by simp) (Ev.bind (toEntryS x hb) (Ev.bind (eqEntryS _ ho.1) (Ev.pos rfl (Ev.bind (markEntryS _ 1 ho.1 (by omega) (by omega)) ?_))))
  refine Ev.neg (by simp; omega) (Ev.bind (eqEntryS out (by omega)) (Ev.pos rfl (Ev.succ ?_)))
  simp only [laws_FnExactCompactRegister.j1]
  refine Ev.neg (by simp) (Ev.bind (markEntryS out 1 (by omega) (by omega) (by omega)) (Ev.bind (heldEntryS 1 out.length (by omega) (by omega) (by omega)) ?_))
  refine Ev.neg (by omega) (Ev.pos rfl (Ev.bind (toEntryS x hb) (Ev.bind h2 (Ev.bind (eqEntryS out (by omega)) (Ev.pos rfl (Ev.succ ?_))))))
  simp only [laws_FnExactCompactRegister.j2]
  refine Ev.neg (by simp) (Ev.bind (heldEntryS 1 out.length (by omega) (by omega) (by omega)) ?_)
  exact Ev.neg (by omega) (Ev.pos rfl (Ev.now _))
end Go.Proofs.Ytodombkmnnggeaa.Pure
