/- Proved: for every register and every number the law FnExactChangedItems comes to true. -/
import Derived.Test.YtodombkmnnggeaaZFnExactChangedItemsB3
import Derived.Test.YtodombkmnnggeaaZFnExactChangedItemsQo
import Derived.Test.YtodombkmnnggeaaZFnExactChangedItemsPci
import Derived.Test.YtodombkmnnggeaaZFnExactChangedItemsPss
namespace Go.Proofs.Ytodombkmnnggeaa.Pure
open Go.RowKit Go.Proofs.Ytodombkmnnggeaa.Q Go.Proofs.YtodombkmnnggeaaW.PrintWords Go.Proofs.YtodombkmnnggeaaW.PrintLast Go.Proofs.Ytodombkmnnggeaa.Pl Go.Proofs.Ytodombkmnnggeaa.Pr Go.Proofs.Ytodombkmnnggeaa.Pp Go.Proofs.Ytodombkmnnggeaa.Pss

theorem FnExactChangedItems : ∀ (x0 : List S67) (x1 : Int), (x0.length ≤ maxLen ∧ ∀ y2 ∈ x0, wf67 y2) → (Lit.int .i64 x1).wf = true → ∃ k, laws_FnExactChangedItems.f k x0 x1 = some true := by
  intro x n hw _
  refine Ev.rounds ?_
  unfold laws_FnExactChangedItems.f
  obtain ⟨t, ht, ht1, hb⟩ := szEntryS x hw
  refine Ev.bind ht (Ev.ite (fun _ => Ev.now _) (fun hn => ?_))
  have hb := hb (by omega)
  have ho := okE_of hw.2 hb
  obtain ⟨⟨out, ok⟩, hl, h1, h2⟩ := changedItems _ n ho
  have hl : out.length ≤ 40 := hl
  refine Ev.bind (toEntryS x hb) (Ev.bind h1 (Ev.bind (toEntryS x hb) (Ev.bind h2 (Ev.bind (eqStringS out (by omega)) (Ev.pos rfl (Ev.succ ?_))))))
  simp only [laws_FnExactChangedItems.j0]
  refine Ev.neg (by simp) (Ev.bind (toEntryS x hb) (Ev.bind (eqEntryS _ ho.1) (Ev.pos rfl (Ev.bind (markEntryS _ 1 ho.1 (by omega) (by omega)) ?_))))
  refine Ev.neg (by simp; omega) (Ev.bind (eqStringS out (by omega)) (Ev.pos rfl (Ev.succ ?_)))
  simp only [laws_FnExactChangedItems.j1]
  refine Ev.neg (by simp) (Ev.bind (markStringS out 1 (by omega) (by omega) (by omega)) (Ev.bind (heldStringS 1 out.length (by omega) (by omega) (by omega)) ?_))
  refine Ev.neg (by omega) (Ev.pos rfl (Ev.bind (toEntryS x hb) (Ev.bind h2 (Ev.bind (eqStringS out (by omega)) (Ev.pos rfl (Ev.succ ?_))))))
  simp only [laws_FnExactChangedItems.j2]
  refine Ev.neg (by simp) (Ev.bind (heldStringS 1 out.length (by omega) (by omega) (by omega)) ?_)
  exact Ev.neg (by omega) (Ev.pos rfl (Ev.now _))
end Go.Proofs.Ytodombkmnnggeaa.Pure
