import Derived.Test.YtodombkmnnggeaaZFnExactChangedItemsQx0
import Derived.Test.YtodombkmnnggeaaZFnExactChangedItemsB1
import Derived.Test.YtodombkmnnggeaaZFnExactChangedItemsB2
import Derived.Test.YtodombkmnnggeaaZFnExactChangedItemsB3
import Derived.Test.YtodombkmnnggeaaZFnExactChangedItemsPq
namespace Go.Proofs.Ytodombkmnnggeaa.Pp
open Go.RowKit Go.Proofs.Ytodombkmnnggeaa.Q Go.Proofs.YtodombkmnnggeaaW.PrintWords Go.Proofs.Ytodombkmnnggeaa.Pl Go.Proofs.Ytodombkmnnggeaa.Pname Go.Proofs.Ytodombkmnnggeaa.Pr

theorem play_append : ∀ (a b : List S70) (y : List S120), play (a ++ b) y = if (play a y).2 = true then play b (play a y).1 else ((play a y).1, false)
  | [], b, y => rfl
  | e :: es, b, y => by
    have e1 : ∀ l, play (e :: l) y = match stepE y e with | none => (y, false) | some y' => play l y' := fun _ => rfl
    rw [List.cons_append, e1, e1]
    cases stepE y e with
    | none => rfl
    | some y' => exact play_append es b y'

theorem findFr_neg (P : Nat → Bool) : ∀ (n i : Nat), findFr P i n < 0 → ∀ j, i ≤ j → j < i + n → P j = false
  | 0, _, _, j, h1, h2 => by omega
  | n + 1, i, h, j, h1, h2 => by
    have h' : (if P i then (i : Int) else findFr P (i + 1) n) < 0 := h
    by_cases hp : P i = true
    · rw [if_pos hp] at h'; omega
    · rw [if_neg hp] at h'
      by_cases e : j = i
      · rw [e]; simpa using hp
      · exact findFr_neg P n (i + 1) h' j (by omega) (by omega)
theorem findFr_pos (P : Nat → Bool) : ∀ (n i : Nat), 0 ≤ findFr P i n → ∃ j, i ≤ j ∧ j < i + n ∧ P j = true
  | 0, _, h => absurd h (by show ¬ 0 ≤ (-1 : Int); omega)
  | n + 1, i, h => by
    have h' : 0 ≤ (if P i then (i : Int) else findFr P (i + 1) n) := h
    by_cases hp : P i = true
    · exact ⟨i, Nat.le_refl _, by omega, hp⟩
    · rw [if_neg hp] at h'
      obtain ⟨j, h1, h2, h3⟩ := findFr_pos P n (i + 1) h'
      exact ⟨j, by omega, by omega, h3⟩

def apart (y : List S120) : Prop := ∀ i j, (hi : i < y.length) → (hj : j < y.length) → (y[i]).f0.toList = (y[j]).f0.toList → i = j
def keeps (y z : List S120) : Prop := y.length ≤ z.length ∧ ∀ i, (hi : i < y.length) → (hz : i < z.length) → (z[i]).f0 = (y[i]).f0
theorem keeps_refl (y : List S120) : keeps y y := ⟨Nat.le_refl _, fun _ _ _ => rfl⟩
theorem keeps_trans {a b c : List S120} (h1 : keeps a b) (h2 : keeps b c) : keeps a c := ⟨Nat.le_trans h1.1 h2.1, fun i hi hz => by
  have := h1.1
  rw [h2.2 i (by omega) hz, h1.2 i hi (by omega)]⟩
theorem apart_set {y : List S120} (h : apart y) (t : Nat) (x : S120) (hx : ∀ ht : t < y.length, x.f0 = (y[t]).f0) : apart (y.set t x) ∧ keeps y (y.set t x) := by
  have e : ∀ i, (hi : i < y.length) → ((y.set t x)[i]'(by rw [List.length_set]; exact hi)).f0 = (y[i]).f0 := by
    intro i hi
    rw [List.getElem_set]
    by_cases hti : t = i
    · subst hti
      rw [if_pos rfl]
      exact hx hi
    · rw [if_neg hti]
  refine ⟨fun i j hi hj he => ?_, by rw [List.length_set]; exact Nat.le_refl _, fun i hi hz => e i hi⟩
  rw [List.length_set] at hi hj
  rw [e i hi, e j hj] at he
  exact h i j hi hj he
theorem apart_snoc {y : List S120} (h : apart y) (x : S120) (hx : ∀ i, (hi : i < y.length) → ¬ (y[i]).f0.toList = x.f0.toList) : apart (y ++ [x]) ∧ keeps y (y ++ [x]) := by
  refine ⟨fun i j hi hj he => ?_, by simp, fun i hi hz => by rw [List.getElem_append_left hi]⟩
  rw [List.length_append, List.length_singleton] at hi hj
  by_cases h1 : i < y.length
  · by_cases h2 : j < y.length
    · rw [List.getElem_append_left h1, List.getElem_append_left h2] at he
      exact h i j h1 h2 he
    · have : j = y.length := by omega
      subst this
      rw [List.getElem_append_left h1, List.getElem_append_right (Nat.le_refl _)] at he
      simp only [Nat.sub_self, List.getElem_cons_zero] at he
      exact absurd he (hx i h1)
  · have hi' : i = y.length := by omega
    subst hi'
    by_cases h2 : j < y.length
    · rw [List.getElem_append_left h2, List.getElem_append_right (Nat.le_refl _)] at he
      simp only [Nat.sub_self, List.getElem_cons_zero] at he
      exact absurd he.symm (hx j h2)
    · omega
theorem step_keeps {y y' : List S120} {e : S70} (h : apart y) (hs : stepE y e = some y') : apart y' ∧ keeps y y' := by
  have hfi := find_in y e.f1
  have hset : ∀ x : S120, x.f0 = (rd_T120 y (find y e.f1)).f0 → ¬ find y e.f1 < 0 → apart (y.set (find y e.f1).toNat x) ∧ keeps y (y.set (find y e.f1).toNat x) := fun x hx hn => by
    refine apart_set h _ x (fun ht => ?_)
    have ht0 : find y e.f1 = (((find y e.f1).toNat : Nat) : Int) := by omega
    have hr : rd_T120 y (find y e.f1) = rd_T120 y (((find y e.f1).toNat : Nat) : Int) := congrArg (rd_T120 y) ht0
    rw [hx, hr, rdI ht]
  unfold stepE at hs
  by_cases h0 : nameOk e.f1 = true ∧ textOk e.f2 = true
  · rw [if_pos h0] at hs
    by_cases h1 : e.f0 = 1
    · rw [if_pos h1] at hs
      by_cases hn : find y e.f1 < 0
      · rw [if_pos hn] at hs
        injection hs with hs
        subst hs
        refine apart_snoc h _ (fun i hi he => ?_)
        have := findFr_neg _ _ _ hn i (Nat.zero_le _) (by omega)
        unfold isIt at this
        rw [rdI hi] at this
        exact absurd he (of_decide_eq_false this)
      · rw [if_neg hn] at hs; cases hs
    · rw [if_neg h1] at hs
      by_cases hn : find y e.f1 < 0
      · rw [if_pos hn] at hs; cases hs
      · rw [if_neg hn] at hs
        repeat' split at hs
        all_goals first
          | (injection hs with hs; subst hs; exact hset _ rfl hn)
          | (cases hs)
  · rw [if_neg h0] at hs; cases hs
theorem play_keeps : ∀ (l : List S70) (y : List S120), apart y → apart (play l y).1 ∧ keeps y (play l y).1
  | [], y, h => ⟨h, keeps_refl y⟩
  | e :: es, y, h => by
    unfold play
    cases hs : stepE y e with
    | none => exact ⟨h, keeps_refl y⟩
    | some y' =>
      have h1 := step_keeps h hs
      have h2 := play_keeps es y' h1.1
      exact ⟨h2.1, keeps_trans h1.2 h2.2⟩
theorem apart_nil : apart [] := fun _ _ hi _ _ => absurd hi (Nat.not_lt_zero _)

theorem good_take {l : List S70} (h : good l = true) (n : Nat) : good (l.take n) = true ∧ keeps (items (l.take n)) (items l) ∧ apart (items l) := by
  have h40 := good_length h
  have hp : (play l []).2 = true := by
    unfold good at h
    simp only [Bool.and_eq_true] at h
    exact h.2
  have ha := play_append (l.take n) (l.drop n) []
  rw [List.take_append_drop] at ha
  have h1 : (play (l.take n) []).2 = true := by
    cases hq : (play (l.take n) []).2 with
    | true => rfl
    | false =>
      rw [hq] at ha
      rw [ha] at hp
      cases hp
  have g1 : good (l.take n) = true := by
    unfold good
    rw [h1, Bool.and_true]
    exact decide_eq_true (by rw [List.length_take]; omega)
  rw [h1, if_pos rfl] at ha
  refine ⟨g1, ?_, ?_⟩
  · rw [← items_good g1, ← items_good h, ha]
    exact (play_keeps _ _ (play_keeps _ _ apart_nil).1).2
  · rw [← items_good h]
    exact (play_keeps _ _ apart_nil).1

def eqI (a b : S120) : Bool := a.f0.toList == b.f0.toList && (a.f1.toList == b.f1.toList && (a.f2 == b.f2))
theorem among {o z : List S120} (hk : keeps o z) (ha : apart z) (i : Nat) (hi : i < z.length) : decide (0 ≤ findFr (fun j => eqI z[i] (rd_T120 o (j : Int))) 0 o.length) = (decide (i < o.length) && eqI z[i] (rd_T120 o (i : Int))) := by
  by_cases h : 0 ≤ findFr (fun j => eqI z[i] (rd_T120 o (j : Int))) 0 o.length
  · rw [decide_eq_true h]
    obtain ⟨j, _, h2, h3⟩ := findFr_pos _ _ _ h
    have hj : j < o.length := by omega
    have hjz : j < z.length := Nat.lt_of_lt_of_le hj hk.1
    have h4 : (z[i]).f0.toList = (z[j]).f0.toList := by
      have h3' := h3
      rw [rdI hj] at h3'
      unfold eqI at h3'
      simp only [Bool.and_eq_true] at h3'
      rw [hk.2 j hj hjz]
      exact eq_of_beq h3'.1
    have : i = j := ha i j hi hjz h4
    subst this
    rw [decide_eq_true hj]
    exact h3.symm
  · rw [decide_eq_false h]
    by_cases hj : i < o.length
    · have := findFr_neg _ _ _ (show findFr (fun j => eqI z[i] (rd_T120 o (j : Int))) 0 o.length < 0 by omega) i (Nat.zero_le _) (by omega)
      rw [this, Bool.and_false]
    · rw [decide_eq_false hj, Bool.false_and]
end Go.Proofs.Ytodombkmnnggeaa.Pp
