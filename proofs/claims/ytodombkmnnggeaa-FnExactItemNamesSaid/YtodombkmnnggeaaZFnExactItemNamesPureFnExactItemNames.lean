/- Proved: for every register and every test the law FnExactItemNames comes to true. -/
import Derived.Test.YtodombkmnnggeaaZFnExactItemNamesB4
import Derived.Test.YtodombkmnnggeaaZFnExactItemNamesQo
import Derived.Test.YtodombkmnnggeaaZFnExactItemNamesPrl
import Derived.Test.YtodombkmnnggeaaZFnExactItemNamesPss
namespace Go.Proofs.Ytodombkmnnggeaa.Pure
open Go.RowKit Go.Proofs.Ytodombkmnnggeaa.Q Go.Proofs.YtodombkmnnggeaaW.PrintWords Go.Proofs.YtodombkmnnggeaaW.PrintLast Go.Proofs.Ytodombkmnnggeaa.Pl Go.Proofs.Ytodombkmnnggeaa.Pr Go.Proofs.Ytodombkmnnggeaa.Pp Go.Proofs.Ytodombkmnnggeaa.Pss

theorem FnExactItemNames : ∀ (x0 : List S67) (x1 : Bool), (x0.length ≤ maxLen ∧ ∀ y2 ∈ x0, wf67 y2) → ∃ k, laws_FnExactItemNames.f k x0 x1 = some true := by
  intro x n hw
  refine Ev.rounds ?_
  unfold laws_FnExactItemNames.f
  obtain ⟨t, ht, ht1, hb⟩ := szEntryS x hw
  refine Ev.bind ht (Ev.ite (fun _ => Ev.now _) (fun hn => ?_))
  have hb := hb (by omega)
  have ho := okE_of hw.2 hb
  obtain ⟨⟨out, ok⟩, hl, h1, h2⟩ := itemNames _ n ho
  have hl : out.length ≤ 40 := hl
  refine Ev.bind (toEntryS x hb) (Ev.bind h1 (Ev.bind (toEntryS x hb) (Ev.bind h2 (Ev.bind (eqStringS out (by omega)) (Ev.pos rfl (Ev.succ ?_))))))
  simp only [laws_FnExactItemNames.j0]
  refine Ev.neg (by simp) (Ev.bind (toEntryS x hb) (Ev.bind (eqEntryS _ ho.1) (Ev.pos rfl (Ev.bind (markEntryS _ 1 ho.1 (by omega) (by omega)) ?_))))
  refine Ev.neg (by simp; omega) (Ev.bind (eqStringS out (by omega)) (Ev.pos rfl (Ev.succ ?_)))
  simp only [laws_FnExactItemNames.j1]
  refine Ev.neg (by simp) (Ev.bind (markStringS out 1 (by omega) (by omega) (by omega)) (Ev.bind (heldStringS 1 out.length (by omega) (by omega) (by omega)) ?_))
  refine Ev.neg (by omega) (Ev.pos rfl (Ev.bind (toEntryS x hb) (Ev.bind h2 (Ev.bind (eqStringS out (by omega)) (Ev.pos rfl (Ev.succ ?_))))))
  simp only [laws_FnExactItemNames.j2]
  refine Ev.neg (by simp) (Ev.bind (heldStringS 1 out.length (by omega) (by omega) (by omega)) ?_)
  exact Ev.neg (by omega) (Ev.pos rfl (Ev.now _))
end Go.Proofs.Ytodombkmnnggeaa.Pure
