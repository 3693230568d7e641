/- What the registers' functions answer. -/
import Derived.Test.YtodombkmnnggeaaZFnExactHistoryOfPq
import Derived.Test.YtodombkmnnggeaaZFnExactHistoryOfB2
import Derived.Test.YtodombkmnnggeaaZFnExactHistoryOfB3
namespace Go.Proofs.Ytodombkmnnggeaa.Pp
open Go.RowKit Go.Proofs.Ytodombkmnnggeaa.Q Go.Proofs.YtodombkmnnggeaaW.PrintWords Go.Proofs.Ytodombkmnnggeaa.Pl Go.Proofs.Ytodombkmnnggeaa.Pname Go.Proofs.Ytodombkmnnggeaa.Pr

theorem historyOf (l : List S70) (s : ByteArray) (ho : okE l) : Both (fun v => v.1.length ≤ 40) (fun k => spec_HistoryOf.f k l s) (fun k => impl_HistoryOf.f k l s) := by
  unfold spec_HistoryOf.f impl_HistoryOf.f
  refine Both.bindCL rfl (Both.bindL (specGood l ho) (Both.bindR (implValid l ho) (Both.ite Iff.rfl (fun hg => ?_) (fun _ => Both.some (by simp)))))
  have hl40 := good_length hg
  have key : ∀ (d i : Nat) (out : List Int), l.length - i = d → i ≤ l.length → out.length ≤ i →
      Both (fun v => v.1.length ≤ 40) (fun k => spec_HistoryOf.l0 k l s out (i : Int)) (fun k => impl_HistoryOf.l0 k s out l (l.length : Int) (i : Int)) := by
    intro d
    induction d with
    | zero =>
      intro i out hd hi hl
      refine Both.succ ?_
      simp only [spec_HistoryOf.l0, impl_HistoryOf.l0]
      refine Both.negL (by omega) (Both.negR (by omega) ?_)
      by_cases h0 : (out.length : Int) = 0
      · refine Both.posR h0 ?_
        obtain rfl : out = [] := List.length_eq_zero_iff.1 (by omega)
        exact Both.some (by simp)
      · refine Both.negR h0 ?_
        rw [decide_eq_true (show (out.length : Int) > 0 by omega)]
        exact Both.some (by show out.length ≤ 40; omega)
    | succ d ih =>
      intro i out hd hi hl
      have hi' : i < l.length := by omega
      refine Both.succ ?_
      simp only [spec_HistoryOf.l0, impl_HistoryOf.l0]
      rw [wrap_succ hi' (by omega)]
      refine Both.posL (by omega) (Both.posL (by omega) (Both.posR (by omega) (Both.posR (by omega) (Both.posR (by omega) ?_))))
      refine Both.ite Iff.rfl (fun _ => ?_) (fun _ => ih (i + 1) _ (by omega) (by omega) (by omega))
      exact Both.posL (by omega) (Both.posR (by omega) (ih (i + 1) _ (by omega) (by omega) (by simp; omega)))
  exact key _ 0 [] rfl (Nat.zero_le _) (Nat.le_refl _)
end Go.Proofs.Ytodombkmnnggeaa.Pp
