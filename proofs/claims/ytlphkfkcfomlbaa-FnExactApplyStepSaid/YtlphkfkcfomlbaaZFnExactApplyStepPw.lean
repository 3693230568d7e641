import Derived.Test.YtlphkfkcfomlbaaZFnExactApplyStepQx0
import Derived.Test.YtlphkfkcfomlbaaZFnExactApplyStepB1
import Derived.Test.YtlphkfkcfomlbaaZFnExactApplyStepB2
import Derived.Test.YtlphkfkcfomlbaaZFnExactApplyStepB3
import Derived.Test.YtlphkfkcfomlbaaZFnExactApplyStepB4
import Derived.Test.YtlphkfkcfomlbaaZFnExactApplyStepB5
import Derived.Test.YtlphkfkcfomlbaaZFnExactApplyStepPv
namespace Go.Proofs.Ytlphkfkcfomlbaa.Pm
open Go.RowKit Go.Proofs.Ytlphkfkcfomlbaa.Q Go.Proofs.YtlphkfkcfomlbaaW.PrintWords Go.Proofs.Ytlphkfkcfomlbaa.Pl Go.Proofs.Ytlphkfkcfomlbaa.Pname

theorem line {l : List S71} (h16 : l.length ≤ 16) (hv : ∀ i, (hi : i < l.length) → HeadP i (l[i])) : ∀ (d : Nat) (n : Int) (out : List Int), n.toNat ≤ d → 0 ≤ n → n ≤ l.length → out.length + n.toNat ≤ 16 →
    Both (fun v => v.length ≤ 16) (fun k => spec_l20Line.l0 k l n out) (fun k => impl_ancestry.l0 k l n out) := by
  intro d
  induction d with
  | zero =>
    intro n out hd h0 h1 hl
    refine Both.succ ?_
    simp only [spec_l20Line.l0, impl_ancestry.l0]
    exact Both.negL (by omega) (Both.negR (by omega) (Both.some (by omega)))
  | succ d ih =>
    intro n out hd h0 h1 hl
    refine Both.succ ?_
    simp only [spec_l20Line.l0, impl_ancestry.l0]
    refine Both.ite Iff.rfl (fun hn => ?_) (fun _ => Both.some (by omega))
    have e : wrap64 (n - 1) = ((n.toNat - 1 : Nat) : Int) := by unfold wrap64; omega
    have hi : n.toNat - 1 < l.length := by omega
    have hp := (hv _ hi).2.1
    rw [e, rdB hi]
    refine Both.posL (by omega) (Both.posL (by omega) (Both.posL (by omega) (Both.posR (by omega) (Both.posR (by omega) (Both.posR (by omega) ?_)))))
    exact ih _ _ (by omega) (by omega) (by omega) (by simp; omega)

theorem markText (n : Int) (h : n ≤ 1099511627776) : Has (fun _ => True) (fun k => laws_markText.f k n) := by
  have key : ∀ (d : Nat) (n : Int) (s : ByteArray), n.toNat ≤ d → n ≤ 1099511627776 → s.size + n.toNat ≤ 2199023255552 → Has (fun _ => True) (fun k => laws_markText.l0 k n s) := by
    intro d
    induction d with
    | zero =>
      intro n s hd _ hs
      refine Has.succ ?_
      simp only [laws_markText.l0]
      exact Has.neg (by omega) (Has.pos (by omega) (Has.some trivial))
    | succ d ih =>
      intro n s hd hn hs
      refine Has.succ ?_
      simp only [laws_markText.l0]
      refine Has.ite (fun hp => ?_) (fun _ => Has.pos (by omega) (Has.some trivial))
      refine Has.opaque (fun b : List Int => b.length = 1) rfl (fun b hb => ?_)
      have e : (strOfNums b).size = 1 := by rw [strOfNums_size, hb]
      have e1 : n.tdiv 10 = n / 10 := Int.tdiv_eq_ediv_of_nonneg (by omega)
      have e2 : wrap64 (n / 10) = n / 10 := by unfold wrap64; omega
      rw [e1, e2]
      refine Has.pos (by omega) (ih _ _ (by omega) (by omega) ?_)
      have e3 : (strOfNums b ++ s).size = 1 + s.size := by rw [ByteArray.size_append, e]
      rw [e3]
      omega
  unfold laws_markText.f
  refine Has.ite (fun _ => Has.some trivial) (fun _ => ?_)
  exact key _ n _ (Nat.le_refl _) h (by simp [ByteArray.size]; omega)

end Go.Proofs.Ytlphkfkcfomlbaa.Pm
