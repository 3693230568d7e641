/- What the registers' functions answer. -/
import Derived.Test.YtodombkmnnggeaaZFnExactCompactRegisterPq
import Derived.Test.YtodombkmnnggeaaZFnExactCompactRegisterB2
import Derived.Test.YtodombkmnnggeaaZFnExactCompactRegisterB3
namespace Go.Proofs.Ytodombkmnnggeaa.Pp
open Go.RowKit Go.Proofs.Ytodombkmnnggeaa.Q Go.Proofs.YtodombkmnnggeaaW.PrintWords Go.Proofs.Ytodombkmnnggeaa.Pl Go.Proofs.Ytodombkmnnggeaa.Pname Go.Proofs.Ytodombkmnnggeaa.Pr

theorem compact (l : List S70) (ho : okE l) : Both (fun v => v.1.length ≤ 80) (fun k => spec_CompactRegister.f k l) (fun k => impl_CompactRegister.f k l) := by
  have hil := items_length l
  unfold spec_CompactRegister.f impl_CompactRegister.f
  refine Both.bindCL rfl (Both.bindL (specGood l ho) (Both.bindR (implReplayed l ho) (Both.ite Iff.rfl (fun hg => ?_) (fun _ => Both.some (by simp)))))
  refine Both.bindL (specPlay l ho) ?_
  rw [items_good hg]
  generalize items l = y at hil ⊢
  have key : ∀ (d i : Nat) (out : List S70), y.length - i = d → i ≤ y.length → out.length ≤ 2 * i →
      Both (fun v => v.1.length ≤ 80) (fun k => spec_CompactRegister.l0 k out y (i : Int)) (fun k => impl_CompactRegister.l0 k out (y.map cv) ((y.map cv).length : Int) (i : Int)) := by
    intro d
    induction d with
    | zero =>
      intro i out hd hi hl
      refine Both.succ ?_
      simp only [spec_CompactRegister.l0, impl_CompactRegister.l0]
      exact Both.negL (by omega) (Both.negR (by simp; omega) (Both.some (by show out.length ≤ 80; omega)))
    | succ d ih =>
      intro i out hd hi hl
      have hi' : i < y.length := by omega
      refine Both.succ ?_
      simp only [spec_CompactRegister.l0, impl_CompactRegister.l0]
      rw [wrap_succ hi' (by omega), rdC hi']
      refine Both.posL (by omega) (Both.posL (by omega) (Both.posL (by omega) (Both.bindCL rfl ?_)))
      refine Both.posR (by simp; omega) (Both.posR (by omega) (Both.posR (by simp; omega) (Both.posR (by omega) (Both.bindCR rfl ?_))))
      refine Both.ite Iff.rfl (fun _ => ?_) (fun _ => ih (i + 1) _ (by omega) (by omega) (by simp; omega))
      exact Both.posL (by simp; omega) (Both.posR (by simp; omega) (ih (i + 1) _ (by omega) (by omega) (by simp; omega)))
  exact key _ 0 [] rfl (Nat.zero_le _) (Nat.le_refl _)

end Go.Proofs.Ytodombkmnnggeaa.Pp
