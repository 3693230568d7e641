/- What the samples' laws count and list. -/
import Derived.Test.YtlphkfkcfomlbaaZFnExactSamplesOfPv
import Derived.Test.YtlphkfkcfomlbaaZFnExactSamplesOfB2
import Derived.Test.YtlphkfkcfomlbaaZFnExactSamplesOfB4
namespace Go.Proofs.Ytlphkfkcfomlbaa.Pm
open Go.RowKit Go.Proofs.Ytlphkfkcfomlbaa.Q Go.Proofs.YtlphkfkcfomlbaaW.PrintWords Go.Proofs.Ytlphkfkcfomlbaa.Pl Go.Proofs.Ytlphkfkcfomlbaa.Pname

theorem samplesOf (l : List S71) (s : ByteArray) (ho : okS l) : Both (fun v => v.1.length ≤ 16) (fun k => spec_SamplesOf.f k l s) (fun k => impl_SamplesOf.f k l s) := by
  have hb := ho.1
  unfold spec_SamplesOf.f impl_SamplesOf.f impl_idsOf_at92.f
  refine Both.bindCL rfl (Both.bindL (specGood' l ho) (Both.bindR (implGood l ho) (Both.ite Iff.rfl (fun hv => ?_) (fun _ => Both.some (by simp)))))
  have h16 := (valid hv).1
  have key : ∀ (d i : Nat) (out : List Int), l.length - i = d → i ≤ l.length → out.length ≤ i →
      Both (fun v => v.1.length ≤ 16) (fun k => spec_SamplesOf.l0 k l s out (i : Int)) (fun k => (impl_idsOf_at92.l0 k out l (l.length : Int) (i : Int) s).bind fun t => some (t, true)) := by
    intro d
    induction d with
    | zero =>
      intro i out hd hi hl
      refine Both.succ ?_
      simp only [spec_SamplesOf.l0, impl_idsOf_at92.l0]
      refine Both.negL (by omega) (Both.bindR (Ev.neg (by omega) (Ev.now _)) (Both.some ?_))
      show out.length ≤ 16
      omega
    | succ d ih =>
      intro i out hd hi hl
      have hi' : i < l.length := by omega
      have hlen : ∀ y : Int, (out ++ [y]).length ≤ i + 1 := fun y => by simp; exact hl
      have e := wrap_succ hi' (by omega)
      have q : ∀ k, impl_idsOf_at92.l0 (k + 1) out l (l.length : Int) (i : Int) s = if (rd_T71 l (i : Int)).f7.toList = s.toList then (if (rd_T71 l (i : Int)).f4 > 0 then impl_idsOf_at92.l0 k (out ++ [(rd_T71 l (i : Int)).f0]) l (l.length : Int) ((i + 1 : Nat) : Int) s else impl_idsOf_at92.l0 k out l (l.length : Int) ((i + 1 : Nat) : Int) s) else impl_idsOf_at92.l0 k out l (l.length : Int) ((i + 1 : Nat) : Int) s := by
        intro k
        simp only [impl_idsOf_at92.l0, impl_SamplesOf_1_c.f]
        rw [if_pos (by omega), if_pos (by omega), if_pos (by omega), e, if_pos (show out.length < 17592186044416 by omega)]
        by_cases c1 : (rd_T71 l (i : Int)).f7.toList = s.toList
        · rw [if_pos c1, if_pos c1]
          by_cases c2 : (rd_T71 l (i : Int)).f4 > 0
          · rw [if_pos c2, decide_eq_true c2]; rfl
          · rw [if_neg c2, decide_eq_false c2]; rfl
        · rw [if_neg c1, if_neg c1]; rfl
      refine Both.succ ?_
      simp only [spec_SamplesOf.l0, q]
      rw [e]
      refine Both.posL (by omega) (Both.posL (by omega) ?_)
      have h1 : out.length < 17592186044416 := by omega
      by_cases c1 : (rd_T71 l (i : Int)).f7.toList = s.toList
      · simp only [if_pos c1]
        by_cases c2 : (rd_T71 l (i : Int)).f4 > 0
        · simp only [if_pos c2, if_pos h1]
          exact ih (i + 1) _ (by omega) (by omega) (hlen _)
        · simp only [if_neg c2]
          exact ih (i + 1) _ (by omega) (by omega) (by omega)
      · simp only [if_neg c1]
        exact ih (i + 1) _ (by omega) (by omega) (by omega)
  exact key _ 0 [] rfl (Nat.zero_le _) (Nat.le_refl _)

theorem line {l : List S71} (h16 : l.length ≤ 16) (hv : ∀ i, (hi : i < l.length) → HeadP i (l[i])) : ∀ (d : Nat) (n : Int) (out : List Int), n.toNat ≤ d → 0 ≤ n → n ≤ l.length → out.length + n.toNat ≤ 16 →
    Both (fun v => v.length ≤ 16) (fun k => spec_l20Line.l0 k l n out) (fun k => impl_ancestry.l0 k l n out) := by
  intro d
  induction d with
  | zero =>
    intro n out hd h0 h1 hl
    refine Both.succ ?_
    simp only [spec_l20Line.l0, impl_ancestry.l0]
    exact Both.negL (by omega) (Both.negR (by omega) (Both.some (by omega)))
  | succ d ih =>
    intro n out hd h0 h1 hl
    refine Both.succ ?_
    simp only [spec_l20Line.l0, impl_ancestry.l0]
    refine Both.ite Iff.rfl (fun hn => ?_) (fun _ => Both.some (by omega))
    have e : wrap64 (n - 1) = ((n.toNat - 1 : Nat) : Int) := by unfold wrap64; omega
    have hi : n.toNat - 1 < l.length := by omega
    have hp := (hv _ hi).2.1
    rw [e, rdB hi]
    refine Both.posL (by omega) (Both.posL (by omega) (Both.posL (by omega) (Both.posR (by omega) (Both.posR (by omega) (Both.posR (by omega) ?_)))))
    exact ih _ _ (by omega) (by omega) (by omega) (by simp; omega)

theorem markText (n : Int) (h : n ≤ 1099511627776) : Has (fun _ => True) (fun k => laws_markText.f k n) := by
  have key : ∀ (d : Nat) (n : Int) (s : ByteArray), n.toNat ≤ d → n ≤ 1099511627776 → s.size + n.toNat ≤ 2199023255552 → Has (fun _ => True) (fun k => laws_markText.l0 k n s) := by
    intro d
    induction d with
    | zero =>
      intro n s hd _ hs
      refine Has.succ ?_
      simp only [laws_markText.l0]
      exact Has.neg (by omega) (Has.pos (by omega) (Has.some trivial))
    | succ d ih =>
      intro n s hd hn hs
      refine Has.succ ?_
      simp only [laws_markText.l0]
      refine Has.ite (fun hp => ?_) (fun _ => Has.pos (by omega) (Has.some trivial))
      refine Has.opaque (fun b : List Int => b.length = 1) rfl (fun b hb => ?_)
      have e : (strOfNums b).size = 1 := by rw [strOfNums_size, hb]
      have e1 : n.tdiv 10 = n / 10 := Int.tdiv_eq_ediv_of_nonneg (by omega)
      have e2 : wrap64 (n / 10) = n / 10 := by unfold wrap64; omega
      rw [e1, e2]
      refine Has.pos (by omega) (ih _ _ (by omega) (by omega) ?_)
      have e3 : (strOfNums b ++ s).size = 1 + s.size := by rw [ByteArray.size_append, e]
      rw [e3]
      omega
  unfold laws_markText.f
  refine Has.ite (fun _ => Has.some trivial) (fun _ => ?_)
  exact key _ n _ (Nat.le_refl _) h (by simp [ByteArray.size]; omega)

theorem markSampleS (l : List S71) (h : l.length ≤ 1048576) : Has (fun v => 0 ≤ v.1) (fun k => laws_markSampleS.f k l 1) := by
  have key : ∀ (d i : Nat) (y : List S71) (a : Int), l.length - i = d → i ≤ l.length → y.length = l.length → 0 ≤ a → a ≤ 1 + 8 * (i : Int) → Has (fun v => 0 ≤ v.1) (fun k => laws_markSampleS.l0 k y a (i : Int)) := by
    intro d
    induction d with
    | zero =>
      intro i y a hd hi hy h0 ha
      refine Has.succ ?_
      simp only [laws_markSampleS.l0]
      exact Has.neg (by omega) (Has.some h0)
    | succ d ih =>
      intro i y a hd hi hy h0 ha
      refine Has.succ ?_
      simp only [laws_markSampleS.l0]
      have w : ∀ b : Int, 0 ≤ b → b ≤ 1099511627776 → wrap64 (b + 1) = b + 1 := fun b h1 h2 => wrap_id (by omega) (by omega)
      rw [wrap_succ (show i < l.length by omega) (by omega), w a (by omega) (by omega), w (a + 1) (by omega) (by omega), w (a + 1 + 1) (by omega) (by omega), w (a + 1 + 1 + 1) (by omega) (by omega), w (a + 1 + 1 + 1 + 1) (by omega) (by omega), w (a + 1 + 1 + 1 + 1 + 1) (by omega) (by omega), w (a + 1 + 1 + 1 + 1 + 1 + 1) (by omega) (by omega), w (a + 1 + 1 + 1 + 1 + 1 + 1 + 1) (by omega) (by omega)]
      refine Has.pos (by omega) (Has.pos (by omega) ?_)
      refine Has.opaque (fun b : List S71 => b.length = l.length) (by simpa using hy) (fun y1 h1 => ?_)
      refine Has.opaque (fun b : List S71 => b.length = l.length) (by simpa using h1) (fun y2 h2 => ?_)
      refine Has.opaque (fun b : List S71 => b.length = l.length) (by simpa using h2) (fun y3 h3 => ?_)
      refine Has.opaque (fun b : List S71 => b.length = l.length) (by simpa using h3) (fun y4 h4 => ?_)
      refine Has.opaque (fun b : List S71 => b.length = l.length) (by simpa using h4) (fun y5 h5 => ?_)
      refine Has.opaque (fun b : List S71 => b.length = l.length) (by simpa using h5) (fun y6 h6 => ?_)
      refine Has.opaque (fun b : List S71 => b.length = l.length) (by simpa using h6) (fun y7 h7 => ?_)
      refine Has.bind (markText _ (by omega)) (fun s _ => ?_)
      exact ih (i + 1) _ _ (by omega) (by omega) (by simpa using h7) (by omega) (by omega)
  unfold laws_markSampleS.f
  exact key _ 0 l 1 rfl (Nat.zero_le _) rfl (by omega) (by omega)
end Go.Proofs.Ytlphkfkcfomlbaa.Pm
