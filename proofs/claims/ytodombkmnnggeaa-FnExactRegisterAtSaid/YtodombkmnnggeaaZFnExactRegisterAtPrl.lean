/- What the registers' functions answer. -/
import Derived.Test.YtodombkmnnggeaaZFnExactRegisterAtPq
import Derived.Test.YtodombkmnnggeaaZFnExactRegisterAtB2
import Derived.Test.YtodombkmnnggeaaZFnExactRegisterAtB3
namespace Go.Proofs.Ytodombkmnnggeaa.Pp
open Go.RowKit Go.Proofs.Ytodombkmnnggeaa.Q Go.Proofs.YtodombkmnnggeaaW.PrintWords Go.Proofs.Ytodombkmnnggeaa.Pl Go.Proofs.Ytodombkmnnggeaa.Pname Go.Proofs.Ytodombkmnnggeaa.Pr

theorem implEntry (l : List S70) (h : l.length ≤ 1048577) : impl_Entry.f l = some l := by
  unfold impl_Entry.f
  simp only [Option.bind_some]
  rw [if_pos (by simp; omega)]
  simp

theorem registerAt (l : List S70) (n : Int) (ho : okE l) : Both (fun v => v.1.length ≤ 1048577) (fun k => spec_RegisterAt.f k l n) (fun k => impl_RegisterAt.f k l n) := by
  have hl := ho.1
  unfold spec_RegisterAt.f impl_RegisterAt.f
  refine Both.bindL (specGood l ho) (Both.bindR (implValid l ho) (Both.ite Iff.rfl (fun hg => ?_) (fun _ => Both.some (by simp))))
  refine Both.bindCL (l1In _ _ _) (Both.bindCR (within _ _ _) (Both.ite Iff.rfl (fun hc => ?_) (fun _ => Both.some (by simp))))
  have hc := of_decide_eq_true hc
  have ht : (l.take n.toNat).length ≤ 1048577 := by rw [List.length_take]; omega
  refine Both.bindCL rfl (Both.posL hc.1 (Both.posL hc.2 (Both.bindCL rfl (Both.posL (by rw [List.length_nil]; omega) ?_))))
  refine Both.posR hc.1 (Both.posR hc.2 (Both.bindCR (implEntry _ ht) ?_))
  rw [List.nil_append]
  exact Both.some ht

end Go.Proofs.Ytodombkmnnggeaa.Pp
