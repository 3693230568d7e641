/- What the registers' functions answer. -/
import Derived.Test.YtodombkmnnggeaaZFnExactItemStateQx0
import Derived.Test.YtodombkmnnggeaaZFnExactItemStateB1
import Derived.Test.YtodombkmnnggeaaZFnExactItemStateB2
import Derived.Test.YtodombkmnnggeaaZFnExactItemStateB3
import Derived.Test.YtodombkmnnggeaaZFnExactItemStatePq
namespace Go.Proofs.Ytodombkmnnggeaa.Pp
open Go.RowKit Go.Proofs.Ytodombkmnnggeaa.Q Go.Proofs.YtodombkmnnggeaaW.PrintWords Go.Proofs.Ytodombkmnnggeaa.Pl Go.Proofs.Ytodombkmnnggeaa.Pname Go.Proofs.Ytodombkmnnggeaa.Pr

theorem implFind2 (y : List S120) (s : ByteArray) (h : y.length ≤ 1048577) : Ev (fun k => impl_item_at94.f k (y.map cv) s) (find y s) := by
  have key := ev_loop (fun i (_ : Unit) k => impl_item_at94.l0 k (y.map cv) ((y.map cv).length : Int) (i : Int) s) y.length (fun i _ => findFr (isIt y s) i (y.length - i)) (fun _ _ => True)
    (fun _ _ => by
      refine Ev.succ ?_
      simp only [impl_item_at94.l0]
      rw [findFr_end]
      exact Ev.neg (by simp) (Ev.now _))
    (fun i _ hi _ ih => by
      refine Ev.succ ?_
      simp only [impl_item_at94.l0, impl_ItemState_1_c.f]
      rw [findFr_step _ hi, wrap_succ hi (by omega), rdC hi]
      refine Ev.pos (by simpa using hi) (Ev.pos (by omega) (Ev.pos (by simpa using hi) (Ev.bindC rfl ?_)))
      refine Ev.ite (fun hc => (Ev.now _).to (by rw [show isIt y s i = true from decide_eq_true (eq_of_beq hc)]; rfl)) (fun hc => (ih () trivial).to (by rw [show isIt y s i = false from decide_eq_false (fun hh => hc (beq_iff_eq.2 hh))]; rfl)))
    0 () (Nat.zero_le _) trivial
  unfold impl_item_at94.f find
  simpa using key

theorem itemState (l : List S70) (s : ByteArray) (ho : okE l) : Both (fun _ => True) (fun k => spec_ItemState.f k l s) (fun k => impl_ItemState.f k l s) := by
  have hil := items_length l
  unfold spec_ItemState.f impl_ItemState.f
  refine Both.bindL (specGood l ho) (Both.bindR (implReplayed l ho) (Both.bindR (implFind2 (items l) s (by omega)) (Both.ite Iff.rfl (fun hg => ?_) (fun _ => Both.some trivial))))
  refine Both.bindL (specPlay l ho) ?_
  rw [items_good hg]
  refine Both.bindL (specFind (items l) s (by omega)) ?_
  have hf := find_in (items l) s
  generalize find (items l) s = t at hf ⊢
  refine Both.ite Iff.rfl (fun _ => Both.some trivial) (fun h0 => ?_)
  have ht0 : t = ((t.toNat : Nat) : Int) := by omega
  have hrd : rd_T123 ((items l).map cv) t = cv (rd_T120 (items l) t) := by rw [ht0]; exact rdC (by omega)
  rw [hrd]
  exact Both.posL (by omega) (Both.posL (by omega) (Both.posR (by omega) (Both.posR (by simp; omega) (Both.some trivial))))

end Go.Proofs.Ytodombkmnnggeaa.Pp
