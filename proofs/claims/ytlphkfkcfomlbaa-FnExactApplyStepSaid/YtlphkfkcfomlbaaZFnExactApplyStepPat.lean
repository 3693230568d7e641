import Derived.Test.YtlphkfkcfomlbaaZFnExactApplyStepQx0
import Derived.Test.YtlphkfkcfomlbaaZFnExactApplyStepB1
import Derived.Test.YtlphkfkcfomlbaaZFnExactApplyStepB2
import Derived.Test.YtlphkfkcfomlbaaZFnExactApplyStepB3
import Derived.Test.YtlphkfkcfomlbaaZFnExactApplyStepB4
import Derived.Test.YtlphkfkcfomlbaaZFnExactApplyStepB5
import Derived.Test.YtlphkfkcfomlbaaZFnExactApplyStepPas
namespace Go.Proofs.Ytlphkfkcfomlbaa.Pm
open Go.RowKit Go.Proofs.Ytlphkfkcfomlbaa.Q Go.Proofs.YtlphkfkcfomlbaaW.PrintWords Go.Proofs.Ytlphkfkcfomlbaa.Pl Go.Proofs.Ytlphkfkcfomlbaa.Pname

def handX (x : S71) (h : ByteArray) : S71 := ⟨x.f0, x.f1, x.f2, x.f3, x.f4, x.f5, x.f6, h⟩
def splitX (x : S71) (c : Int) : S71 := ⟨x.f0, x.f1, x.f2, x.f3, wrap64 (x.f4 - c), x.f5, wrap64 (x.f6 + c), x.f7⟩
def workX (x : S71) (c : Int) : S71 := ⟨x.f0, x.f1, x.f2, x.f3, wrap64 (x.f4 - c), wrap64 (x.f5 + c), x.f6, x.f7⟩
def stepAt (l : List S71) (i : Nat) (x : S71) (a b c : Int) (h : ByteArray) : List S71 × Bool :=
  if a = 2 then (if c = 0 then V (l.set i (handX x h)) else ([], false))
  else if a = 3 then (if 1 ≤ c ∧ c ≤ x.f4 then V (l.set i (splitX x c) ++ [newX (wrap64 ((l.length : Int) + 1)) b x.f2 c h]) else ([], false))
  else if a = 4 then (if (1 ≤ c ∧ c ≤ x.f4) ∧ h.toList = [] then V (l.set i (workX x c)) else ([], false))
  else ([], false)

theorem rd_set {l : List S71} {i : Nat} (hi : i < l.length) (e : S71) : rd_T71 (l.set i e) (i : Int) = e := by
  rw [rdB (by rw [List.length_set]; exact hi)]
  simp

theorem specOut {l : List S71} (ho : okS l) (hv : validB l = true) (a b c : Int) (h : ByteArray) (ha : ¬ a = 1) (hb : ¬ (1 ≤ b ∧ b ≤ (l.length : Int))) : Ev (fun k => spec_ApplyStep.f k l a b c h) ([], false) := by
  have h16 := (valid hv).1
  refine specStep ho hv a b c h l false ?_
  unfold spec_l20Step.f
  refine Ev.bindC rfl (Ev.pos (by rw [List.length_nil]; omega) (Ev.bindC rfl ?_))
  rw [List.nil_append]
  refine Ev.neg ha (Ev.bindC (l1In _ _ _) (Ev.neg (fun hh => hb (of_decide_eq_true hh)) (Ev.now _)))
theorem implOut {l : List S71} (ho : okS l) (hv : validB l = true) (a b c : Int) (h : ByteArray) (ha : ¬ a = 1) (hb : ¬ (1 ≤ b ∧ b ≤ (l.length : Int))) : Ev (fun k => impl_ApplyStep.f k l a b c h) ([], false) := by
  refine implStep ho hv a b c h _ ?_
  unfold impl_apply.f
  refine Ev.bindC (implClone l ho.1) (Ev.neg ha (Ev.bindC (within _ _ _) ?_))
  rw [decide_eq_false hb]
  refine Ev.succ ?_
  simp only [impl_apply.j0]
  exact Ev.pos (by simp) (Ev.now _)

theorem specIn {l : List S71} (ho : okS l) (hv : validB l = true) (a b c : Int) (h : ByteArray) (hh : h.size ≤ 9223372036854775807) (ha : ¬ a = 1) (i : Nat) (hi : i < l.length) (hb : b = (i : Int) + 1) : Ev (fun k => spec_ApplyStep.f k l a b c h) (stepAt l i l[i] a b c h) := by
  have h16 := (valid hv).1
  have hxi := ho.2 _ (List.getElem_mem hi)
  have hid := ((valid hv).2 i hi).1
  have e1 : wrap64 (b - 1) = (i : Int) := by rw [hb]; unfold wrap64; omega
  have pre : ∀ (y : List S71) (ok : Bool), (if ok = true then (y, true) else ([], false)) = stepAt l i l[i] a b c h →
      Ev (fun k => (if a = 2 then (spec_l20Step.j0 k l (c == 0) a b c h (l[i]).f0 (l[i]).f1 (l[i]).f2 (l[i]).f3 (l[i]).f4 (l[i]).f5 (l[i]).f6 (l[i]).f7) else (spec_l20Step.j0 k l false a b c h (l[i]).f0 (l[i]).f1 (l[i]).f2 (l[i]).f3 (l[i]).f4 (l[i]).f5 (l[i]).f6 (l[i]).f7))) (y, ok) → Ev (fun k => spec_ApplyStep.f k l a b c h) (stepAt l i l[i] a b c h) := by
    intro y ok hr he
    refine (specStep ho hv a b c h y ok ?_).to hr
    unfold spec_l20Step.f
    refine Ev.bindC rfl (Ev.pos (by rw [List.length_nil]; omega) (Ev.bindC rfl ?_))
    rw [List.nil_append, e1, rdB hi]
    exact Ev.neg ha (Ev.bindC (l1In _ _ _) (Ev.pos (decide_eq_true (by omega)) (Ev.pos (by omega) (Ev.pos (by omega) he))))
  have j1F : ¬ a = 4 → ∀ p0 p1 p2 p3 p4 p5 p6 p7, Ev (fun k => spec_l20Step.j1 k l false a b c h p0 p1 p2 p3 p4 p5 p6 p7) (l, false) := by
    intro h4 p0 p1 p2 p3 p4 p5 p6 p7
    refine Ev.succ ?_
    simp only [spec_l20Step.j1]
    exact Ev.neg (by simp) (Ev.neg h4 (Ev.now _))
  have okr : ∀ y : List S71, (if validB y = true then (y, true) else (([], false) : List S71 × Bool)) = V y := fun y => rfl
  generalize hx : l[i] = x at pre hxi hid ⊢
  unfold stepAt at pre ⊢
  by_cases h2 : a = 2
  · rw [if_pos h2] at pre ⊢
    by_cases hc : c = 0
    · rw [if_pos hc] at pre ⊢
      refine pre _ _ (okr _) (Ev.pos h2 (Ev.succ ?_))
      simp only [spec_l20Step.j0]
      rw [e1]
      exact Ev.pos (beq_iff_eq.2 hc) (Ev.pos (by omega) (Ev.pos (by omega) (Ev.bindC rfl (specEnd _ (okS_set ho i (handX x h) ⟨hh, hxi.2⟩)))))
    · rw [if_neg hc] at pre ⊢
      refine pre l false rfl (Ev.pos h2 (Ev.succ ?_))
      simp only [spec_l20Step.j0]
      exact Ev.neg (fun hh => hc (beq_iff_eq.1 hh)) (Ev.neg (by omega) (j1F (by omega) _ _ _ _ _ _ _ _))
  · rw [if_neg h2] at pre ⊢
    by_cases h3 : a = 3
    · rw [if_pos h3] at pre ⊢
      by_cases hc : 1 ≤ c ∧ c ≤ x.f4
      · rw [if_pos hc] at pre ⊢
        have hl : ((l ++ [newX (wrap64 ((l.length : Int) + 1)) b x.f2 c h]).set i (splitX x c)) = l.set i (splitX x c) ++ [newX (wrap64 ((l.length : Int) + 1)) b x.f2 c h] := by
          rw [List.set_append_left _ _ hi]
        refine pre _ _ (okr _) (Ev.neg h2 (Ev.succ ?_))
        simp only [spec_l20Step.j0]
        refine Ev.neg (by simp) (Ev.pos h3 (Ev.bindC (l1In _ _ _) ?_))
        rw [decide_eq_true hc]
        refine Ev.succ ?_
        simp only [spec_l20Step.j1]
        rw [e1]
        refine Ev.pos (by first | trivial | rfl) (Ev.pos (by omega) (Ev.bindC rfl (Ev.pos (by omega) (Ev.pos (by simp; omega) (Ev.bindC rfl ?_)))))
        have hb' : x.f0 = b := by omega
        rw [hb', Int.toNat_natCast]
        have hl' : ∀ z : List S71, z = l.set i (splitX x c) ++ [newX (wrap64 ((l.length : Int) + 1)) b x.f2 c h] → Ev (fun k => (spec_l20Good.f k z).bind fun t => some (z, t)) (l.set i (splitX x c) ++ [newX (wrap64 ((l.length : Int) + 1)) b x.f2 c h], validB (l.set i (splitX x c) ++ [newX (wrap64 ((l.length : Int) + 1)) b x.f2 c h])) := by
          intro z hz
          subst hz
          exact specEnd _ (okS_snoc (okS_set ho i (splitX x c) ⟨hxi.1, wrap_in _⟩) (by rw [List.length_set]; exact h16) _ (okX_new _ b x.f2 c h hh))
        refine hl' _ (Eq.trans ?_ hl)
        unfold splitX newX
        rw [hb']
      · rw [if_neg hc] at pre ⊢
        refine pre l false rfl (Ev.neg h2 (Ev.succ ?_))
        simp only [spec_l20Step.j0]
        refine Ev.neg (by simp) (Ev.pos h3 (Ev.bindC (l1In _ _ _) ?_))
        rw [decide_eq_false hc]
        exact j1F (by omega) _ _ _ _ _ _ _ _
    · rw [if_neg h3] at pre ⊢
      by_cases h4 : a = 4
      · rw [if_pos h4] at pre ⊢
        by_cases hc : 1 ≤ c ∧ c ≤ x.f4
        · by_cases he : h.toList = []
          · rw [if_pos ⟨hc, he⟩] at pre ⊢
            refine pre _ _ (okr _) (Ev.neg h2 (Ev.succ ?_))
            simp only [spec_l20Step.j0]
            refine Ev.neg (by simp) (Ev.neg h3 (Ev.succ ?_))
            simp only [spec_l20Step.j1]
            rw [e1]
            refine Ev.neg (by simp) (Ev.pos h4 (Ev.bindC (l1In _ _ _) (Ev.pos (decide_eq_true hc) (Ev.pos he (Ev.pos (by omega) (Ev.pos (by omega) (Ev.bindC rfl ?_)))))))
            exact specEnd _ (okS_set ho i (workX x c) ⟨hxi.1, hxi.2⟩)
          · rw [if_neg (fun hh => he hh.2)] at pre ⊢
            refine pre l false rfl (Ev.neg h2 (Ev.succ ?_))
            simp only [spec_l20Step.j0]
            refine Ev.neg (by simp) (Ev.neg h3 (Ev.succ ?_))
            simp only [spec_l20Step.j1]
            exact Ev.neg (by simp) (Ev.pos h4 (Ev.bindC (l1In _ _ _) (Ev.pos (decide_eq_true hc) (Ev.neg he (Ev.now _)))))
        · rw [if_neg (fun hh => hc hh.1)] at pre ⊢
          refine pre l false rfl (Ev.neg h2 (Ev.succ ?_))
          simp only [spec_l20Step.j0]
          refine Ev.neg (by simp) (Ev.neg h3 (Ev.succ ?_))
          simp only [spec_l20Step.j1]
          exact Ev.neg (by simp) (Ev.pos h4 (Ev.bindC (l1In _ _ _) (Ev.neg (fun hh => hc (of_decide_eq_true hh)) (Ev.now _))))
      · rw [if_neg h4] at pre ⊢
        refine pre l false rfl (Ev.neg h2 (Ev.succ ?_))
        simp only [spec_l20Step.j0]
        exact Ev.neg (by simp) (Ev.neg h3 (j1F h4 _ _ _ _ _ _ _ _))
end Go.Proofs.Ytlphkfkcfomlbaa.Pm
