/- Proved: for every register and every text the law FnExactItemState comes to true. -/
import Derived.Test.YtodombkmnnggeaaZFnExactItemStateB3
import Derived.Test.YtodombkmnnggeaaZFnExactItemStateQo
import Derived.Test.YtodombkmnnggeaaZFnExactItemStatePrl
namespace Go.Proofs.Ytodombkmnnggeaa.Pure
open Go.RowKit Go.Proofs.Ytodombkmnnggeaa.Q Go.Proofs.YtodombkmnnggeaaW.PrintWords Go.Proofs.YtodombkmnnggeaaW.PrintLast Go.Proofs.Ytodombkmnnggeaa.Pl Go.Proofs.Ytodombkmnnggeaa.Pr Go.Proofs.Ytodombkmnnggeaa.Pp

theorem FnExactItemState : ∀ (x0 : List S67) (x1 : ByteArray), (x0.length ≤ maxLen ∧ ∀ y2 ∈ x0, wf67 y2) → x1.size ≤ maxLen → ∃ k, laws_FnExactItemState.f k x0 x1 = some true := by
  intro x n hw _
  refine Ev.rounds ?_
  unfold laws_FnExactItemState.f
  refine Ev.ite (fun _ => Ev.now _) (fun _ => ?_)
  obtain ⟨t, ht, ht1, hb⟩ := szEntryS x hw
  refine Ev.bind ht (Ev.ite (fun _ => Ev.now _) (fun hn => ?_))
  have hb := hb (by omega)
  have ho := okE_of hw.2 hb
  obtain ⟨⟨a, b, ok⟩, _, h1, h2⟩ := itemState _ n ho
  refine Ev.bind (toEntryS x hb) (Ev.bind h1 (Ev.bind (toEntryS x hb) (Ev.bind h2 ?_)))
  refine Ev.pos rfl (Ev.neg (by simp) (Ev.succ ?_))
  simp only [laws_FnExactItemState.j0]
  refine Ev.neg (by simp) ?_
  exact Ev.bind (toEntryS x hb) (Ev.bind (eqEntryS _ ho.1) (Ev.pos rfl (Ev.now _)))
end Go.Proofs.Ytodombkmnnggeaa.Pure
