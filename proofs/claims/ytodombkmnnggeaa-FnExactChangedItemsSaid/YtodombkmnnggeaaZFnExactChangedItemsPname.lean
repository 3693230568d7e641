import Derived.Test.YtodombkmnnggeaaZFnExactChangedItemsQx0
import Derived.Test.YtodombkmnnggeaaZFnExactChangedItemsB1
import Derived.Test.YtodombkmnnggeaaZFnExactChangedItemsB2
import Derived.Test.YtodombkmnnggeaaZFnExactChangedItemsB3
import Derived.Test.YtodombkmnnggeaaZFnExactChangedItemsPh
namespace Go.Proofs.Ytodombkmnnggeaa.Pname
open Go.RowKit Go.Proofs.Ytodombkmnnggeaa.Q Go.Proofs.YtodombkmnnggeaaW.PrintWords Go.Proofs.Ytodombkmnnggeaa.Pl

theorem l1In (a b c : Int) : spec_l1In.f a b c = some (decide (b ≤ a ∧ a ≤ c)) := by
  unfold spec_l1In.f
  by_cases h : a ≥ b
  · rw [if_pos h]; congr 1; simp; omega
  · rw [if_neg h]; congr 1; simp; omega
theorem within (a b c : Int) : impl_within.f a b c = some (decide (b ≤ a ∧ a ≤ c)) := by
  unfold impl_within.f
  by_cases h : a ≥ b
  · rw [if_pos h]; congr 1; simp; omega
  · rw [if_neg h]; congr 1; simp; omega

def chL (a : ByteArray) (i : Nat) : Bool := decide (97 ≤ bt a i ∧ bt a i ≤ 122)
def ch (a : ByteArray) (i : Nat) : Bool := decide ((97 ≤ bt a i ∧ bt a i ≤ 122) ∨ (48 ≤ bt a i ∧ bt a i ≤ 57))
def ch0 (a : ByteArray) (i : Nat) : Bool := decide ((97 ≤ bt a i ∧ bt a i ≤ 122) ∨ (i ≠ 0 ∧ 48 ≤ bt a i ∧ bt a i ≤ 57))
def nameOk (a : ByteArray) : Bool := allFr (ch0 a) 0 a.size && decide ((1 : Int) ≤ (a.size : Int) ∧ (a.size : Int) ≤ 8)

theorem specLoop (a : ByteArray) (h : a.size ≤ 9223372036854775807) : ∀ i, i ≤ a.size → Ev (fun k => spec_l7Name.l0 k a (i : Int)) (allFr (ch a) i (a.size - i)) := by
  intro i hi
  have key := ev_loop (fun i (_ : Unit) k => spec_l7Name.l0 k a (i : Int)) a.size (fun i _ => allFr (ch a) i (a.size - i)) (fun _ _ => True)
    (fun _ _ => by
      refine Ev.succ ?_
      simp only [spec_l7Name.l0]
      rw [allFr_end]
      exact Ev.neg (by omega) (Ev.now _))
    (fun i _ hi _ ih => by
      refine Ev.succ ?_
      simp only [spec_l7Name.l0]
      rw [allFr_step _ hi, wrap_succ hi h]
      refine Ev.pos (by omega) (Ev.pos (by omega) ?_)
      have F : ¬ ((97 ≤ bt a i ∧ bt a i ≤ 122) ∨ (48 ≤ bt a i ∧ bt a i ≤ 57)) → false = (ch a i && allFr (ch a) (i + 1) (a.size - (i + 1))) := fun hn => by
        rw [show ch a i = false from decide_eq_false hn]; rfl
      have T : ((97 ≤ bt a i ∧ bt a i ≤ 122) ∨ (48 ≤ bt a i ∧ bt a i ≤ 57)) → allFr (ch a) (i + 1) (a.size - (i + 1)) = (ch a i && allFr (ch a) (i + 1) (a.size - (i + 1))) := fun hn => by
        rw [show ch a i = true from decide_eq_true hn]; rfl
      refine Ev.ite (fun h1 => Ev.ite (fun h2 => (Ev.now _).to (F (by omega))) (fun h2 => Ev.ite (fun h3 => (Ev.now _).to (F (by omega))) (fun h3 => (ih () trivial).to (T (by omega))))) (fun h1 => ?_)
      exact Ev.ite (fun h4 => Ev.ite (fun h2 => (Ev.now _).to (F (by omega))) (fun h2 => Ev.ite (fun h3 => (Ev.now _).to (F (by omega))) (fun h3 => (ih () trivial).to (T (by omega))))) (fun h4 => (ih () trivial).to (T (by omega))))
    i () hi trivial
  exact key

theorem specName (a : ByteArray) (h : a.size ≤ 9223372036854775807) : Ev (fun k => spec_l7Name.f k a) (nameOk a) := by
  have hj : ∀ b, Ev (fun k => spec_l7Name.j0 k a b) (!b && allFr (ch a) 0 a.size) := by
    intro b
    refine Ev.succ ?_
    simp only [spec_l7Name.j0]
    cases b
    · refine Ev.neg (by simp) ?_
      have := specLoop a h 0 (Nat.zero_le _)
      simpa using this
    · exact Ev.pos rfl (Ev.now _)
  unfold spec_l7Name.f
  refine Ev.bindC (l1In _ _ _) ?_
  refine Ev.ite (fun h1 => ?_) (fun h1 => ?_)
  · have h1' := of_decide_eq_true h1
    refine Ev.pos (by omega) ?_
    have e : ∀ b : Bool, (b = !chL a 0) → (!b && allFr (ch a) 0 a.size) = nameOk a := by
      intro b hb
      unfold nameOk
      rw [h1, Bool.and_true, hb, Bool.not_not]
      have s := allFr_step (ch a) (show 0 < a.size by omega)
      have s0 := allFr_step (ch0 a) (show 0 < a.size by omega)
      simp only [Nat.sub_zero] at s s0
      rw [s, s0, allFr_congr (ch0 a) (ch a) (a.size - (0 + 1)) (0 + 1) (fun j hj _ => by have hj0 : j ≠ 0 := (by omega); unfold ch0 ch; simp [hj0])]
      have : ch0 a 0 = chL a 0 := by unfold ch0 chL; simp
      rw [this]
      by_cases hc : chL a 0 = true
      · have : ch a 0 = true := by
          have := of_decide_eq_true hc
          exact decide_eq_true (Or.inl this)
        rw [hc, this]
        rfl
      · simp only [Bool.not_eq_true] at hc
        rw [hc]; rfl
    refine Ev.ite (fun h2 => (hj _).to (e _ ?_)) (fun h2 => (hj _).to (e _ ?_))
    · have : chL a 0 = false := decide_eq_false (fun hh => by have := hh.1; simp at this; omega)
      rw [this]; rfl
    · unfold chL
      by_cases h3 : bt a 0 > 122
      · rw [decide_eq_true h3, decide_eq_false]
        · rfl
        · intro hh; have := hh.2; simp at this; omega
      · rw [decide_eq_false h3, decide_eq_true]
        · rfl
        · refine ⟨?_, ?_⟩ <;> simp <;> omega
  · refine (hj _).to ?_
    simp only [Bool.not_eq_true] at h1
    unfold nameOk
    rw [h1]; simp

theorem implName (a : ByteArray) (h : a.size ≤ 9223372036854775807) : Ev (fun k => impl_isName.f k a) (nameOk a) := by
  have key := ev_loop (fun i (_ : Unit) k => impl_isName.l0 k a (a.size : Int) (i : Int)) a.size (fun i _ => allFr (ch0 a) i (a.size - i) && decide ((1 : Int) ≤ (a.size : Int) ∧ (a.size : Int) ≤ 8)) (fun _ _ => True)
    (fun _ _ => by
      refine Ev.succ ?_
      simp only [impl_isName.l0]
      rw [allFr_end]
      exact Ev.neg (by omega) (Ev.bindC (within _ _ _) (Ev.now _)))
    (fun i _ hi _ ih => by
      refine Ev.succ ?_
      simp only [impl_isName.l0]
      rw [allFr_step _ hi, wrap_succ hi h]
      refine Ev.pos (by omega) (Ev.pos (by omega) (Ev.pos (by omega) ?_))
      have F : ¬ ((97 ≤ bt a i ∧ bt a i ≤ 122) ∨ (i ≠ 0 ∧ 48 ≤ bt a i ∧ bt a i ≤ 57)) → false = (ch0 a i && allFr (ch0 a) (i + 1) (a.size - (i + 1)) && decide ((1 : Int) ≤ (a.size : Int) ∧ (a.size : Int) ≤ 8)) := fun hn => by
        rw [show ch0 a i = false from decide_eq_false hn]; rfl
      have T : ((97 ≤ bt a i ∧ bt a i ≤ 122) ∨ (i ≠ 0 ∧ 48 ≤ bt a i ∧ bt a i ≤ 57)) → (allFr (ch0 a) (i + 1) (a.size - (i + 1)) && decide ((1 : Int) ≤ (a.size : Int) ∧ (a.size : Int) ≤ 8)) = (ch0 a i && allFr (ch0 a) (i + 1) (a.size - (i + 1)) && decide ((1 : Int) ≤ (a.size : Int) ∧ (a.size : Int) ≤ 8)) := fun hn => by
        rw [show ch0 a i = true from decide_eq_true hn]; rfl
      refine Ev.ite (fun h1 => Ev.ite (fun h2 => Ev.ite (fun h3 => (ih () trivial).to (T (by omega))) (fun h3 => Ev.ite (fun h4 => (Ev.now _).to (F (by omega))) (fun h4 => Ev.ite (fun h5 => (ih () trivial).to (T (by omega))) (fun h5 => (Ev.now _).to (F (by omega)))))) (fun h2 => by omega)) (fun h1 => ?_)
      exact Ev.ite (fun h2 => Ev.ite (fun h4 => (Ev.now _).to (F (by omega))) (fun h4 => Ev.ite (fun h5 => (ih () trivial).to (T (by omega))) (fun h5 => (Ev.now _).to (F (by omega))))) (fun h2 => Ev.ite (fun h4 => (Ev.now _).to (F (by omega))) (fun h4 => (Ev.now _).to (F (by omega)))))
    0 () (Nat.zero_le _) trivial
  unfold impl_isName.f nameOk
  simpa using key
end Go.Proofs.Ytodombkmnnggeaa.Pname
