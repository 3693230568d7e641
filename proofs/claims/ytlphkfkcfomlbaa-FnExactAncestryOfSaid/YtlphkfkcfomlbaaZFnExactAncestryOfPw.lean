/- What the samples' laws count and list. -/
import Derived.Test.YtlphkfkcfomlbaaZFnExactAncestryOfPv
import Derived.Test.YtlphkfkcfomlbaaZFnExactAncestryOfB2
import Derived.Test.YtlphkfkcfomlbaaZFnExactAncestryOfB3
import Derived.Test.YtlphkfkcfomlbaaZFnExactAncestryOfB1
namespace Go.Proofs.Ytlphkfkcfomlbaa.Pm
open Go.RowKit Go.Proofs.Ytlphkfkcfomlbaa.Q Go.Proofs.YtlphkfkcfomlbaaW.PrintWords Go.Proofs.Ytlphkfkcfomlbaa.Pl Go.Proofs.Ytlphkfkcfomlbaa.Pname

theorem line {l : List S71} (h16 : l.length ≤ 16) (hv : ∀ i, (hi : i < l.length) → HeadP i (l[i])) : ∀ (d : Nat) (n : Int) (out : List Int), n.toNat ≤ d → 0 ≤ n → n ≤ l.length → out.length + n.toNat ≤ 16 →
    Both (fun v => v.length ≤ 16) (fun k => spec_l20Line.l0 k l n out) (fun k => impl_ancestry.l0 k l n out) := by
  intro d
  induction d with
  | zero =>
    intro n out hd h0 h1 hl
    refine Both.succ ?_
    simp only [spec_l20Line.l0, impl_ancestry.l0]
    exact Both.negL (by omega) (Both.negR (by omega) (Both.some (by omega)))
  | succ d ih =>
    intro n out hd h0 h1 hl
    refine Both.succ ?_
    simp only [spec_l20Line.l0, impl_ancestry.l0]
    refine Both.ite Iff.rfl (fun hn => ?_) (fun _ => Both.some (by omega))
    have e : wrap64 (n - 1) = ((n.toNat - 1 : Nat) : Int) := by unfold wrap64; omega
    have hi : n.toNat - 1 < l.length := by omega
    have hp := (hv _ hi).2.1
    rw [e, rdB hi]
    refine Both.posL (by omega) (Both.posL (by omega) (Both.posL (by omega) (Both.posR (by omega) (Both.posR (by omega) (Both.posR (by omega) ?_)))))
    exact ih _ _ (by omega) (by omega) (by omega) (by simp; omega)

theorem ancestryOf (l : List S71) (n : Int) (ho : okS l) : Both (fun v => v.1.length ≤ 16) (fun k => spec_AncestryOf.f k l n) (fun k => impl_AncestryOf.f k l n) := by
  unfold spec_AncestryOf.f impl_AncestryOf.f spec_l20Line.f impl_ancestry.f
  refine Both.bindL (specGood' l ho) (Both.bindR (implGood l ho) (Both.ite Iff.rfl (fun hv => ?_) (fun _ => Both.some (by simp))))
  have hv := valid hv
  refine Both.bindCL (l1In _ _ _) (Both.bindCR (within _ _ _) (Both.ite Iff.rfl (fun hc => ?_) (fun _ => Both.some (by simp))))
  have hc := of_decide_eq_true hc
  exact Both.bind (line hv.1 hv.2 _ n [] (Nat.le_refl _) (by omega) hc.2 (by simp; omega)) (fun v hv => Both.some hv)

theorem markText (n : Int) (h : n ≤ 1099511627776) : Has (fun _ => True) (fun k => laws_markText.f k n) := by
  have key : ∀ (d : Nat) (n : Int) (s : ByteArray), n.toNat ≤ d → n ≤ 1099511627776 → s.size + n.toNat ≤ 2199023255552 → Has (fun _ => True) (fun k => laws_markText.l0 k n s) := by
    intro d
    induction d with
    | zero =>
      intro n s hd _ hs
      refine Has.succ ?_
      simp only [laws_markText.l0]
      exact Has.neg (by omega) (Has.pos (by omega) (Has.some trivial))
    | succ d ih =>
      intro n s hd hn hs
      refine Has.succ ?_
      simp only [laws_markText.l0]
      refine Has.ite (fun hp => ?_) (fun _ => Has.pos (by omega) (Has.some trivial))
      refine Has.opaque (fun b : List Int => b.length = 1) rfl (fun b hb => ?_)
      have e : (strOfNums b).size = 1 := by rw [strOfNums_size, hb]
      have e1 : n.tdiv 10 = n / 10 := Int.tdiv_eq_ediv_of_nonneg (by omega)
      have e2 : wrap64 (n / 10) = n / 10 := by unfold wrap64; omega
      rw [e1, e2]
      refine Has.pos (by omega) (ih _ _ (by omega) (by omega) ?_)
      have e3 : (strOfNums b ++ s).size = 1 + s.size := by rw [ByteArray.size_append, e]
      rw [e3]
      omega
  unfold laws_markText.f
  refine Has.ite (fun _ => Has.some trivial) (fun _ => ?_)
  exact key _ n _ (Nat.le_refl _) h (by simp [ByteArray.size]; omega)

theorem markSampleS (l : List S71) (h : l.length ≤ 1048576) : Has (fun v => 0 ≤ v.1) (fun k => laws_markSampleS.f k l 1) := by
  have key : ∀ (d i : Nat) (y : List S71) (a : Int), l.length - i = d → i ≤ l.length → y.length = l.length → 0 ≤ a → a ≤ 1 + 8 * (i : Int) → Has (fun v => 0 ≤ v.1) (fun k => laws_markSampleS.l0 k y a (i : Int)) := by
    intro d
    induction d with
    | zero =>
      intro i y a hd hi hy h0 ha
      refine Has.succ ?_
      simp only [laws_markSampleS.l0]
      exact Has.neg (by omega) (Has.some h0)
    | succ d ih =>
      intro i y a hd hi hy h0 ha
      refine Has.succ ?_
      simp only [laws_markSampleS.l0]
      have w : ∀ b : Int, 0 ≤ b → b ≤ 1099511627776 → wrap64 (b + 1) = b + 1 := fun b h1 h2 => wrap_id (by omega) (by omega)
      rw [wrap_succ (show i < l.length by omega) (by omega), w a (by omega) (by omega), w (a + 1) (by omega) (by omega), w (a + 1 + 1) (by omega) (by omega), w (a + 1 + 1 + 1) (by omega) (by omega), w (a + 1 + 1 + 1 + 1) (by omega) (by omega), w (a + 1 + 1 + 1 + 1 + 1) (by omega) (by omega), w (a + 1 + 1 + 1 + 1 + 1 + 1) (by omega) (by omega), w (a + 1 + 1 + 1 + 1 + 1 + 1 + 1) (by omega) (by omega)]
      refine Has.pos (by omega) (Has.pos (by omega) ?_)
      refine Has.opaque (fun b : List S71 => b.length = l.length) (by simpa using hy) (fun y1 h1 => ?_)
      refine Has.opaque (fun b : List S71 => b.length = l.length) (by simpa using h1) (fun y2 h2 => ?_)
      refine Has.opaque (fun b : List S71 => b.length = l.length) (by simpa using h2) (fun y3 h3 => ?_)
      refine Has.opaque (fun b : List S71 => b.length = l.length) (by simpa using h3) (fun y4 h4 => ?_)
      refine Has.opaque (fun b : List S71 => b.length = l.length) (by simpa using h4) (fun y5 h5 => ?_)
      refine Has.opaque (fun b : List S71 => b.length = l.length) (by simpa using h5) (fun y6 h6 => ?_)
      refine Has.opaque (fun b : List S71 => b.length = l.length) (by simpa using h6) (fun y7 h7 => ?_)
      refine Has.bind (markText _ (by omega)) (fun s _ => ?_)
      exact ih (i + 1) _ _ (by omega) (by omega) (by simpa using h7) (by omega) (by omega)
  unfold laws_markSampleS.f
  exact key _ 0 l 1 rfl (Nat.zero_le _) rfl (by omega) (by omega)
end Go.Proofs.Ytlphkfkcfomlbaa.Pm
