import Derived.Test.YtlphkfkcfomlbaaZFnExactApplyStepQx0
import Derived.Test.YtlphkfkcfomlbaaZFnExactApplyStepB1
import Derived.Test.YtlphkfkcfomlbaaZFnExactApplyStepB2
import Derived.Test.YtlphkfkcfomlbaaZFnExactApplyStepB3
import Derived.Test.YtlphkfkcfomlbaaZFnExactApplyStepB4
import Derived.Test.YtlphkfkcfomlbaaZFnExactApplyStepB5
import Derived.Test.YtlphkfkcfomlbaaZFnExactApplyStepPat
namespace Go.Proofs.Ytlphkfkcfomlbaa.Pm
open Go.RowKit Go.Proofs.Ytlphkfkcfomlbaa.Q Go.Proofs.YtlphkfkcfomlbaaW.PrintWords Go.Proofs.Ytlphkfkcfomlbaa.Pl Go.Proofs.Ytlphkfkcfomlbaa.Pname

theorem implIn {l : List S71} (ho : okS l) (hv : validB l = true) (a b c : Int) (h : ByteArray) (hh : h.size ≤ 9223372036854775807) (ha : ¬ a = 1) (i : Nat) (hi : i < l.length) (hb : b = (i : Int) + 1) : Ev (fun k => impl_ApplyStep.f k l a b c h) (stepAt l i l[i] a b c h) := by
  have h16 := (valid hv).1
  have hxi := ho.2 _ (List.getElem_mem hi)
  have hH := (valid hv).2 i hi
  have hT := valid2 hv i hi
  have e1 : wrap64 (b - 1) = (i : Int) := by rw [hb]; unfold wrap64; omega
  have hj1 : ∀ x : Bool, x = true → Ev (fun k => impl_apply.j1 k l x a b c h) ([], false) := by
    intro x hx
    subst hx
    refine Ev.succ ?_
    simp only [impl_apply.j1]
    exact Ev.pos trivial (Ev.now _)
  refine implStep ho hv a b c h _ ?_
  unfold impl_apply.f
  refine Ev.bindC (implClone l ho.1) (Ev.neg ha (Ev.bindC (within _ _ _) ?_))
  rw [decide_eq_true (show 1 ≤ b ∧ b ≤ (l.length : Int) by omega)]
  refine Ev.succ ?_
  simp only [impl_apply.j0]
  refine Ev.neg (by simp) ?_
  have rdi : rd_T71 l (i : Int) = l[i] := rdB hi
  generalize hx : l[i] = x at hxi hH hT rdi ⊢
  have h4b : 0 ≤ x.f4 ∧ x.f4 ≤ x.f3 ∧ x.f3 ≤ 500 ∧ 0 ≤ x.f5 ∧ 0 ≤ x.f6 := ⟨hH.2.2.2.2.1, hT.1, hH.2.2.2.1.2, hH.2.2.2.2.2.1, hH.2.2.2.2.2.2.1⟩
  unfold stepAt
  by_cases h2 : a = 2
  · rw [if_pos h2]
    refine Ev.pos h2 ?_
    by_cases hc : c = 0
    · rw [if_pos hc]
      refine Ev.pos hc (Ev.bindC (within _ _ _) ?_)
      rw [decide_eq_true (show 0 ≤ c ∧ c ≤ 500 by omega)]
      refine Ev.succ ?_
      simp only [impl_apply.j1]
      rw [e1, rdi]
      refine Ev.neg (by simp) (Ev.neg ha (Ev.pos h2 (Ev.pos (by omega) (Ev.pos (by omega) (Ev.bindC rfl ?_)))))
      exact implEnd _ (okS_set ho i (handX x h) ⟨hh, hxi.2⟩)
    · rw [if_neg hc]
      exact Ev.neg hc (hj1 _ rfl)
  · rw [if_neg h2]
    refine Ev.neg h2 ?_
    by_cases hc0 : c = 0
    · refine Ev.pos hc0 ((hj1 _ rfl).to ?_)
      have n1 : ¬ (1 ≤ c ∧ c ≤ x.f4) := by omega
      by_cases h3 : a = 3
      · rw [if_pos h3, if_neg n1]
      · rw [if_neg h3]
        by_cases h4 : a = 4
        · rw [if_pos h4, if_neg (fun hh => n1 hh.1)]
        · rw [if_neg h4]
    · refine Ev.neg hc0 (Ev.bindC (within _ _ _) ?_)
      by_cases hc5 : 0 ≤ c ∧ c ≤ 500
      · rw [decide_eq_true hc5]
        refine Ev.succ ?_
        simp only [impl_apply.j1]
        rw [e1]
        refine Ev.neg (by simp) (Ev.neg ha (Ev.neg h2 ?_))
        have rs : ∀ e : S71, rd_T71 (l.set i e) (i : Int) = e := fun e => rd_set hi e
        have neg4 : ¬ c ≤ x.f4 → ∀ (y : List S71) (hy : i < y.length), (y[i]).f4 = wrap64 (x.f4 - c) → V y = ([], false) := fun hn y hy hf => by
          refine V_not (fun hb => ?_)
          have := ((valid hb).2 i hy).2.2.2.2.1
          rw [hf] at this
          unfold wrap64 at this
          omega
        by_cases h3 : a = 3
        · rw [if_pos h3]
          refine Ev.pos h3 (Ev.pos (by omega) (Ev.pos (by omega) (Ev.bindC rfl (Ev.bindC rfl ?_))))
          simp only [Int.toNat_natCast, rs, rdi, List.set_set]
          refine Ev.pos (by simp; omega) (Ev.bindC rfl ?_)
          have en : Ev (fun k => (impl_IsValidSamples.f k (l.set i (splitX x c) ++ [newX (wrap64 ((l.length : Int) + 1)) b x.f2 c h])).bind fun t => (if t = true then (some (l.set i (splitX x c) ++ [newX (wrap64 ((l.length : Int) + 1)) b x.f2 c h], true)) else (some (([] : List S71), false)))) (V (l.set i (splitX x c) ++ [newX (wrap64 ((l.length : Int) + 1)) b x.f2 c h])) := implEnd _ (okS_snoc (okS_set ho i (splitX x c) ⟨hxi.1, wrap_in _⟩) (by rw [List.length_set]; exact h16) _ (okX_new _ b x.f2 c h hh))
          by_cases hc4 : c ≤ x.f4
          · rw [if_pos ⟨by omega, hc4⟩]
            exact en
          · rw [if_neg (fun hh => hc4 hh.2)]
            refine (en.to ?_)
            refine neg4 hc4 _ (by simp; omega) ?_
            rw [List.getElem_append_left (by rw [List.length_set]; exact hi), List.getElem_set_self]
            rfl
        · rw [if_neg h3]
          refine Ev.neg h3 ?_
          by_cases h4 : a = 4
          · rw [if_pos h4]
            refine Ev.pos h4 ?_
            by_cases he : h.toList = []
            · refine Ev.pos he (Ev.pos (by omega) (Ev.pos (by omega) (Ev.bindC rfl (Ev.bindC rfl ?_))))
              simp only [Int.toNat_natCast, rs, rdi, List.set_set]
              have en : Ev (fun k => (impl_IsValidSamples.f k (l.set i (workX x c))).bind fun t => (if t = true then (some (l.set i (workX x c), true)) else (some (([] : List S71), false)))) (V (l.set i (workX x c))) := implEnd _ (okS_set ho i (workX x c) ⟨hxi.1, hxi.2⟩)
              by_cases hc4 : c ≤ x.f4
              · rw [if_pos ⟨⟨by omega, hc4⟩, he⟩]
                exact en
              · rw [if_neg (fun hh => hc4 hh.1.2)]
                refine (en.to ?_)
                refine neg4 hc4 _ (by simp; omega) ?_
                rw [List.getElem_set_self]
                rfl
            · rw [if_neg (fun hh => he hh.2)]
              exact Ev.neg he (Ev.now _)
          · rw [if_neg h4]
            exact Ev.neg h4 (Ev.now _)
      · rw [decide_eq_false hc5]
        refine (hj1 _ rfl).to ?_
        have n1 : ¬ (1 ≤ c ∧ c ≤ x.f4) := by omega
        by_cases h3 : a = 3
        · rw [if_pos h3, if_neg n1]
        · rw [if_neg h3]
          by_cases h4 : a = 4
          · rw [if_pos h4, if_neg (fun hh => n1 hh.1)]
          · rw [if_neg h4]

theorem applyStep (l : List S71) (ho : okS l) (a b c : Int) (h : ByteArray) (hh : h.size ≤ 9223372036854775807) : Both (fun v => v.1.length ≤ 16) (fun k => spec_ApplyStep.f k l a b c h) (fun k => impl_ApplyStep.f k l a b c h) := by
  by_cases hv : validB l = true
  · by_cases ha : a = 1
    · subst ha
      exact ⟨_, V_length, specStep ho hv 1 b c h _ _ (specTake ho hv b c h hh), implStep ho hv 1 b c h _ (implTake ho hv b c h hh)⟩
    · by_cases hb : 1 ≤ b ∧ b ≤ (l.length : Int)
      · have hi : (b - 1).toNat < l.length := by omega
        have hb' : b = (((b - 1).toNat : Nat) : Int) + 1 := by omega
        refine ⟨_, ?_, specIn ho hv a b c h hh ha _ hi hb', implIn ho hv a b c h hh ha _ hi hb'⟩
        unfold stepAt
        repeat' split
        all_goals first | exact V_length | simp
      · exact ⟨_, by simp, specOut ho hv a b c h ha hb, implOut ho hv a b c h ha hb⟩
  · refine ⟨([], false), by simp, ?_, ?_⟩
    · unfold spec_ApplyStep.f
      exact Ev.bind (specGood' l ho) (Ev.neg hv (Ev.now _))
    · unfold impl_ApplyStep.f
      exact Ev.bind (implGood l ho) (Ev.neg hv (Ev.now _))
end Go.Proofs.Ytlphkfkcfomlbaa.Pm
