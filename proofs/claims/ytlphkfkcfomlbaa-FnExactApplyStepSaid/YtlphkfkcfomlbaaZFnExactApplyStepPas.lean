import Derived.Test.YtlphkfkcfomlbaaZFnExactApplyStepQx0
import Derived.Test.YtlphkfkcfomlbaaZFnExactApplyStepB1
import Derived.Test.YtlphkfkcfomlbaaZFnExactApplyStepB2
import Derived.Test.YtlphkfkcfomlbaaZFnExactApplyStepB3
import Derived.Test.YtlphkfkcfomlbaaZFnExactApplyStepB4
import Derived.Test.YtlphkfkcfomlbaaZFnExactApplyStepB5
import Derived.Test.YtlphkfkcfomlbaaZFnExactApplyStepPw
namespace Go.Proofs.Ytlphkfkcfomlbaa.Pm
open Go.RowKit Go.Proofs.Ytlphkfkcfomlbaa.Q Go.Proofs.YtlphkfkcfomlbaaW.PrintWords Go.Proofs.Ytlphkfkcfomlbaa.Pl Go.Proofs.Ytlphkfkcfomlbaa.Pname

theorem valid2 {l : List S71} (h : validB l = true) : ∀ i, (hi : i < l.length) → TailP l (l[i]) := by
  unfold validB at h
  simp only [Bool.and_eq_true, decide_eq_true_eq] at h
  intro i hi
  have := allFr_all _ _ _ h.2.1 i (Nat.zero_le _) (by omega)
  unfold locB at this
  simp only [Bool.and_eq_true, decide_eq_true_eq] at this
  rw [at'_eq hi] at this
  exact this.2
def okX (x : S71) : Prop := x.f7.size ≤ 9223372036854775807 ∧ -9223372036854775808 ≤ x.f6 ∧ x.f6 < 9223372036854775808
theorem okS_set {l : List S71} (h : okS l) (i : Nat) (x : S71) (hx : okX x) : okS (l.set i x) := by
  refine ⟨by rw [List.length_set]; exact h.1, fun y hy => ?_⟩
  rcases List.mem_or_eq_of_mem_set hy with hy | hy
  · exact h.2 y hy
  · rw [hy]; exact hx
theorem okS_snoc {l : List S71} (h : okS l) (hl : l.length ≤ 16) (x : S71) (hx : okX x) : okS (l ++ [x]) := by
  refine ⟨by simp; omega, fun y hy => ?_⟩
  rcases List.mem_append.1 hy with hy | hy
  · exact h.2 y hy
  · rw [List.mem_singleton] at hy
    rw [hy]; exact hx
theorem wrap_in (x : Int) : -9223372036854775808 ≤ wrap64 x ∧ wrap64 x < 9223372036854775808 := by unfold wrap64; omega

def V (y : List S71) : List S71 × Bool := if validB y = true then (y, true) else ([], false)
theorem V_length {y : List S71} : (V y).1.length ≤ 16 := by
  unfold V
  split
  · rename_i h; exact (valid h).1
  · simp
theorem V_not {y : List S71} (h : ¬ validB y = true) : V y = ([], false) := if_neg h
theorem implEnd (y : List S71) (h : okS y) : Ev (fun k => (impl_IsValidSamples.f k y).bind fun t => (if t = true then (some (y, true)) else (some (([] : List S71), false)))) (V y) := by
  unfold V
  refine Ev.bind (implGood y h) ?_
  exact Ev.ite (fun h => (Ev.now _).to (by rw [if_pos h])) (fun h => (Ev.now _).to (by rw [if_neg h]))
theorem specEnd (y : List S71) (h : okS y) : Ev (fun k => (spec_l20Good.f k y).bind fun t => some (y, t)) (y, validB y) := Ev.bind (specGood' y h) (Ev.now _)

theorem specStep {l : List S71} (ho : okS l) (hv : validB l = true) (a b c : Int) (h : ByteArray) (y : List S71) (ok : Bool) (hs : Ev (fun k => spec_l20Step.f k l a b c h) (y, ok)) : Ev (fun k => spec_ApplyStep.f k l a b c h) (if ok = true then (y, true) else ([], false)) := by
  unfold spec_ApplyStep.f
  refine Ev.bind (specGood' l ho) (Ev.pos hv (Ev.bind hs ?_))
  exact Ev.ite (fun h => (Ev.now _).to (by rw [if_pos h])) (fun h => (Ev.now _).to (by rw [if_neg h]))
theorem implStep {l : List S71} (ho : okS l) (hv : validB l = true) (a b c : Int) (h : ByteArray) (v : List S71 × Bool) (hs : Ev (fun k => impl_apply.f k l a b c h) v) : Ev (fun k => impl_ApplyStep.f k l a b c h) v := by
  unfold impl_ApplyStep.f
  exact Ev.bind (implGood l ho) (Ev.pos hv (Ev.bind hs (Ev.now _)))
theorem implClone (l : List S71) (h : l.length ≤ 1048576) : impl_Sample.f l = some l := by
  unfold impl_Sample.f
  simp only [Option.bind_some]
  rw [if_pos (by simp; omega)]
  simp

def newX (n p q c : Int) (h : ByteArray) : S71 := ⟨n, p, q, c, c, 0, 0, h⟩
theorem okX_new (n p q c : Int) (h : ByteArray) (hh : h.size ≤ 9223372036854775807) : okX (newX n p q c h) := ⟨hh, by show -9223372036854775808 ≤ (0 : Int); omega, by show (0 : Int) < 9223372036854775808; omega⟩

theorem specTake {l : List S71} (ho : okS l) (hv : validB l = true) (b c : Int) (h : ByteArray) (hh : h.size ≤ 9223372036854775807) : Ev (fun k => spec_l20Step.f k l 1 b c h) (l ++ [newX (wrap64 ((l.length : Int) + 1)) 0 b c h], validB (l ++ [newX (wrap64 ((l.length : Int) + 1)) 0 b c h])) := by
  have h16 := (valid hv).1
  unfold spec_l20Step.f
  refine Ev.bindC rfl (Ev.pos (by rw [List.length_nil]; omega) (Ev.bindC rfl ?_))
  rw [List.nil_append]
  refine Ev.pos rfl (Ev.pos (by omega) (Ev.bindC rfl ?_))
  exact specEnd _ (okS_snoc ho h16 _ (okX_new _ 0 b c h hh))
theorem implTake {l : List S71} (ho : okS l) (hv : validB l = true) (b c : Int) (h : ByteArray) (hh : h.size ≤ 9223372036854775807) : Ev (fun k => impl_apply.f k l 1 b c h) (V (l ++ [newX (wrap64 ((l.length : Int) + 1)) 0 b c h])) := by
  have h16 := (valid hv).1
  have hj1 : ∀ x : Bool, x = true → ∀ a b c h, Ev (fun k => impl_apply.j1 k l x a b c h) ([], false) := by
    intro x hx a b c h
    subst hx
    refine Ev.succ ?_
    simp only [impl_apply.j1]
    exact Ev.pos trivial (Ev.now _)
  have bad : ¬ (1 ≤ c ∧ c ≤ 500) → (([], false) : List S71 × Bool) = V (l ++ [newX (wrap64 ((l.length : Int) + 1)) 0 b c h]) := fun hc => by
    refine (V_not (fun hb => hc ?_)).symm
    have := (valid hb).2 l.length (by simp)
    rw [List.getElem_append_right (Nat.le_refl _)] at this
    simp only [Nat.sub_self, List.getElem_cons_zero] at this
    exact this.2.2.2.1
  unfold impl_apply.f
  refine Ev.bindC (implClone l ho.1) (Ev.pos rfl (Ev.succ ?_))
  simp only [impl_apply.j0]
  refine Ev.neg (by simp) (Ev.neg (by omega) ?_)
  refine Ev.ite (fun h0 => (hj1 _ rfl _ _ _ _).to (bad (by omega))) (fun h0 => ?_)
  refine Ev.bindC (within _ _ _) ?_
  by_cases hc : decide (0 ≤ c ∧ c ≤ 500) = true
  · rw [hc]
    refine Ev.succ ?_
    simp only [impl_apply.j1]
    refine Ev.neg (by simp) (Ev.pos trivial (Ev.pos (by omega) (Ev.bindC rfl ?_)))
    exact implEnd _ (okS_snoc ho h16 _ (okX_new _ 0 b c h hh))
  · have hc' : ¬ (0 ≤ c ∧ c ≤ 500) := fun hh => hc (decide_eq_true hh)
    simp only [Bool.not_eq_true] at hc
    rw [hc]
    exact (hj1 _ rfl _ _ _ _).to (bad (by omega))
end Go.Proofs.Ytlphkfkcfomlbaa.Pm
