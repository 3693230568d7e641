/- Edges, flows, basins and means over the neighbors of points. -/
import Derived.Test.YtgojidjfidldbaaZFnExactBasinsOfPn
import Derived.Test.YtgojidjfidldbaaZFnExactBasinsOfB3
import Derived.Test.YtgojidjfidldbaaZFnExactBasinsOfB1
import Derived.Test.YtgojidjfidldbaaZFnExactBasinsOfB2
namespace Go.Proofs.Ytgojidjfidldbaa.Pf
open Go.RowKit Go.Proofs.Ytgojidjfidldbaa.Q Go.Proofs.YtgojidjfidldbaaW.PrintWords Go.Proofs.YtgojidjfidldbaaW.PrintMore Go.Proofs.Ytgojidjfidldbaa.Pl Go.Proofs.Ytgojidjfidldbaa.Pi Go.Proofs.Ytgojidjfidldbaa.Ps Go.Proofs.Ytgojidjfidldbaa.Pn

theorem at_mem {l : List Int} {P : Int → Prop} (h : ∀ q ∈ l, P q) {j : Nat} (hj : j < l.length) : P (rd l (j : Int)) := by
  rw [rd_at hj]
  exact h _ (List.getElem_mem hj)

theorem edge {c r : Int} {l : List Int} (f : Fit c r l) : ∀ (d i : Nat), l.length - i = d → i ≤ l.length → ∀ p q m : Int,
    Both (fun _ => True) (fun k => spec_SteepestEdge.l0 k p q m (i : Int) c r l) (fun k => impl_SteepestEdge.l0 k p q m (l.length : Int) (i : Int) c r l) := by
  have hs := f.small
  intro d
  induction d with
  | zero =>
    intro i hd hi p q m
    refine Both.succ ?_
    simp only [spec_SteepestEdge.l0, impl_SteepestEdge.l0]
    exact Both.negL (by omega) (Both.negR (by omega) (Both.some trivial))
  | succ d ih =>
    intro i hd hi p q m
    have hi' : i < l.length := by omega
    have hnb := nb_in f (p := (i : Int)) (by omega) (by omega)
    have inner : ∀ (e j : Nat), (nb c r i).length - j = e → j ≤ (nb c r i).length → ∀ p q m : Int,
        Both (fun _ => True) (fun k => spec_SteepestEdge.l1 k p q m (i : Int) (nb c r i) (j : Int) c r l) (fun k => impl_SteepestEdge.l1 k p q m (i : Int) (l.length : Int) (i : Int) (nb c r i) ((nb c r i).length : Int) (j : Int) c r l) := by
      intro e
      induction e with
      | zero =>
        intro j he hj p q m
        refine Both.succ ?_
        simp only [spec_SteepestEdge.l1, impl_SteepestEdge.l1]
        refine Both.negL (by omega) (Both.negR (by omega) ?_)
        rw [wrap_succ hi' (by omega)]
        exact ih (i + 1) (by omega) (by omega) p q m
      | succ e ihe =>
        intro j he hj p q m
        have hj' : j < (nb c r i).length := by omega
        have hq := at_mem hnb hj'
        have b1 := f.rd (q := (i : Int)) (by omega) (by omega)
        have b2 := f.rd hq.1 hq.2
        refine Both.succ ?_
        simp only [spec_SteepestEdge.l1, impl_SteepestEdge.l1]
        refine Both.posL (by omega) (Both.posL (by omega) (Both.posL (by omega) (Both.posL (by omega) (Both.posL hq.1 (Both.posL hq.2 ?_)))))
        refine Both.posR (by omega) (Both.posR (by omega) (Both.posR (by omega) (Both.posR (by omega) (Both.posR (by omega) (Both.posR hq.1 (Both.posR hq.2 ?_))))))
        rw [wrap_succ hj' (by have := nb_length c r i; omega)]
        have w1 : wrap64 (rd l (i : Int) - rd l (rd (nb c r i) (j : Int))) = rd l (i : Int) - rd l (rd (nb c r i) (j : Int)) := wrap_id (by omega) (by omega)
        have w2 : wrap64 (rd l (rd (nb c r i) (j : Int)) - rd l (i : Int)) = rd l (rd (nb c r i) (j : Int)) - rd l (i : Int) := wrap_id (by omega) (by omega)
        have m1 : spec_l1Most.f (wrap64 (rd l (i : Int) - rd l (rd (nb c r i) (j : Int)))) (wrap64 (rd l (rd (nb c r i) (j : Int)) - rd l (i : Int))) = some (mx (rd l (i : Int) - rd l (rd (nb c r i) (j : Int))) (rd l (rd (nb c r i) (j : Int)) - rd l (i : Int))) := by
          unfold spec_l1Most.f mx
          rw [w1, w2]
          by_cases h : rd l (i : Int) - rd l (rd (nb c r i) (j : Int)) > rd l (rd (nb c r i) (j : Int)) - rd l (i : Int)
          · rw [if_pos h, if_neg (by omega)]
          · rw [if_neg h]; congr 1; split <;> omega
        have m2 : impl_absolute.f (wrap64 (rd l (i : Int) - rd l (rd (nb c r i) (j : Int)))) = some (mx (rd l (i : Int) - rd l (rd (nb c r i) (j : Int))) (rd l (rd (nb c r i) (j : Int)) - rd l (i : Int))) := by
          unfold impl_absolute.f
          rw [w1, show wrap64 (-(rd l (i : Int) - rd l (rd (nb c r i) (j : Int)))) = rd l (rd (nb c r i) (j : Int)) - rd l (i : Int) by rw [wrap_id (by omega) (by omega)]; omega]
        refine Both.bindCL m1 (Both.bindCR m2 ?_)
        refine Both.ite (by omega) (fun _ => Both.ite Iff.rfl (fun _ => ihe (j + 1) (by omega) (by omega) _ _ _) (fun _ => ihe (j + 1) (by omega) (by omega) _ _ _)) (fun _ => ihe (j + 1) (by omega) (by omega) _ _ _)
    refine Both.succ ?_
    simp only [spec_SteepestEdge.l0, impl_SteepestEdge.l0]
    refine Both.posL (by omega) (Both.posR (by omega) ?_)
    refine Both.bindL (specNb f (by omega) (by omega)) (Both.bindR (implNb f (by omega) (by omega)) ?_)
    exact inner _ 0 rfl (Nat.zero_le _) p q m

theorem steepest (c r : Int) (l : List Int) (h : l.length ≤ 9223372036854775807) : Both (fun _ => True) (fun k => spec_SteepestEdge.f k c r l) (fun k => impl_SteepestEdge.f k c r l) := by
  unfold spec_SteepestEdge.f impl_SteepestEdge.f
  refine Both.bindL (specGood c r l h) (Both.bindR (implGood c r l h) ?_)
  refine Both.ite Iff.rfl (fun hg => ?_) (fun _ => Both.some trivial)
  exact edge (fit_of_good hg) _ 0 rfl (Nat.zero_le _) 0 0 (-1)

/-- The least of some points, the first of them. -/
def best (l : List Int) (b : Int) (ks : List Int) : Int := ks.foldl (fun b k => if rd l k < rd l b then k else b) b
theorem best_cons (l : List Int) (b k : Int) (ks : List Int) : best l b (k :: ks) = best l (if rd l k < rd l b then k else b) ks := rfl
theorem best_two (l : List Int) : ∀ (ks : List Int) (s p : Int), best l p (s :: ks) = if rd l (best l s ks) < rd l p then best l s ks else p := by
  intro ks
  induction ks with
  | nil => intro s p; rfl
  | cons y ks ih =>
    intro s p
    rw [best_cons, ih y, ih y s]
    by_cases h1 : rd l s < rd l p
    · rw [if_pos h1]
      by_cases h2 : rd l (best l y ks) < rd l s
      · rw [if_pos h2, if_pos (by omega)]
      · rw [if_neg h2, if_pos h1]
    · rw [if_neg h1]
      by_cases h2 : rd l (best l y ks) < rd l s
      · rw [if_pos h2]
      · rw [if_neg h2, if_neg h1, if_neg (by omega)]
theorem best_mem (l : List Int) : ∀ (ks : List Int) (b : Int), best l b ks = b ∨ best l b ks ∈ ks := by
  intro ks
  induction ks with
  | nil => intro b; exact .inl rfl
  | cons y ks ih =>
    intro b
    rw [best_cons]
    rcases ih (if rd l y < rd l b then y else b) with h | h
    · rw [h]
      split
      · exact .inr (by simp)
      · exact .inl rfl
    · exact .inr (by simp [h])

theorem nb_ne {c r p : Int} {l : List Int} (f : Fit c r l) : ∃ x xs, nb c r p = x :: xs := by
  have hc := f.c1
  have m0 := Int.emod_nonneg p (show c ≠ 0 by omega)
  unfold nb
  by_cases h1 : p / c > 0
  · exact ⟨_, _, by rw [if_pos h1]; rfl⟩
  · by_cases h2 : p % c > 0
    · exact ⟨_, _, by rw [if_neg h1, if_pos h2]; rfl⟩
    · exact ⟨_, _, by rw [if_neg h1, if_neg h2, if_pos (by omega)]; rfl⟩

theorem flowStep {c r : Int} {l : List Int} (f : Fit c r l) (p : Int) (out : List Int) (h0 : 0 ≤ p) (h1 : p < l.length) (ho : (out.length : Int) + rd l p ≤ 20000) (hp : 0 < out.length) (hm : ∀ q : Int, q ∈ out → 0 ≤ q ∧ q < l.length)
    (next : ∀ (q : Int) (out' : List Int), 0 ≤ q → q < l.length → rd l q < rd l p → (out'.length : Int) + rd l q ≤ 20000 → 0 < out'.length → (∀ q : Int, q ∈ out' → 0 ≤ q ∧ q < l.length) →
      Both (fun v => v.length ≤ 20000 ∧ 0 < v.length ∧ ∀ q : Int, q ∈ v → 0 ≤ q ∧ q < l.length) (fun k => spec_l19Path.l0 k q out' c r l) (fun k => impl_Surface_flow.l0 k q out' c r l)) :
    Both (fun v => v.length ≤ 20000 ∧ 0 < v.length ∧ ∀ q : Int, q ∈ v → 0 ≤ q ∧ q < l.length) (fun k => spec_l19Path.l0 k p out c r l) (fun k => impl_Surface_flow.l0 k p out c r l) := by
  have hs := f.small
  have bp := f.rd h0 h1
  obtain ⟨x, xs, hx⟩ := nb_ne f (p := p)
  have hnb := nb_in f h0 h1
  have hn4 := nb_length c r p
  -- both inner loops, to their ends
  have L : ∀ (ks : List Int) (j : Nat) (b : Int), (∀ q : Int, q ∈ ks → 0 ≤ q ∧ q < l.length) → (nb c r p).drop j = ks → 0 ≤ b → b < l.length → ∀ (v : List Int),
      Ev (fun k => spec_l19Path.l1 k p out (nb c r p) (best l b ks) ((nb c r p).length : Int) c r l) v → Ev (fun k => spec_l19Path.l1 k p out (nb c r p) b (j : Int) c r l) v := by
    intro ks
    induction ks with
    | nil =>
      intro j b _ hk b0 b1 v hv
      have hj : (nb c r p).length ≤ j := by simpa [List.drop_eq_nil_iff] using hk
      obtain ⟨K, hK⟩ := hv
      refine ⟨K + 1, fun k hk' => ?_⟩
      obtain ⟨m, rfl⟩ : ∃ m, k = m + 1 := ⟨k - 1, by omega⟩
      have := hK (m + 1) (by omega)
      simp only [spec_l19Path.l1] at this ⊢
      rw [if_neg (by omega)] at this ⊢
      exact this
    | cons y ks ih =>
      intro j b hks hk b0 b1 v hv
      have hj : j < (nb c r p).length := by
        rcases Nat.lt_or_ge j (nb c r p).length with h | h
        · exact h
        · rw [List.drop_of_length_le h] at hk; cases hk
      rw [List.drop_eq_getElem_cons hj] at hk
      injection hk with hk1 hk2
      have hy := hks y (by simp)
      refine Ev.succ ?_
      simp only [spec_l19Path.l1]
      rw [rd_at hj, hk1, wrap_succ hj (by omega)]
      refine Ev.pos (by omega) (Ev.pos (by omega) (Ev.pos hy.1 (Ev.pos hy.2 (Ev.pos b0 (Ev.pos b1 ?_)))))
      rw [best_cons] at hv
      refine Ev.ite (fun hlt => ?_) (fun hlt => ?_)
      · rw [if_pos hlt] at hv
        exact ih (j + 1) y (fun q hq => hks q (by simp [hq])) hk2 hy.1 hy.2 v hv
      · rw [if_neg hlt] at hv
        exact ih (j + 1) b (fun q hq => hks q (by simp [hq])) hk2 b0 b1 v hv
  have R : ∀ (ks : List Int) (j : Nat) (b : Int), (∀ q : Int, q ∈ ks → 0 ≤ q ∧ q < l.length) → (nb c r p).drop j = ks → 0 ≤ b → b < l.length → ∀ (v : List Int),
      Ev (fun k => impl_Surface_flow.l1 k p out (best l b ks) (nb c r p) ((nb c r p).length : Int) ((nb c r p).length : Int) c r l) v → Ev (fun k => impl_Surface_flow.l1 k p out b (nb c r p) ((nb c r p).length : Int) (j : Int) c r l) v := by
    intro ks
    induction ks with
    | nil =>
      intro j b _ hk b0 b1 v hv
      have hj : (nb c r p).length ≤ j := by simpa [List.drop_eq_nil_iff] using hk
      obtain ⟨K, hK⟩ := hv
      refine ⟨K + 1, fun k hk' => ?_⟩
      obtain ⟨m, rfl⟩ : ∃ m, k = m + 1 := ⟨k - 1, by omega⟩
      have := hK (m + 1) (by omega)
      simp only [impl_Surface_flow.l1] at this ⊢
      rw [if_neg (by omega)] at this ⊢
      exact this
    | cons y ks ih =>
      intro j b hks hk b0 b1 v hv
      have hj : j < (nb c r p).length := by
        rcases Nat.lt_or_ge j (nb c r p).length with h | h
        · exact h
        · rw [List.drop_of_length_le h] at hk; cases hk
      rw [List.drop_eq_getElem_cons hj] at hk
      injection hk with hk1 hk2
      have hy := hks y (by simp)
      refine Ev.succ ?_
      simp only [impl_Surface_flow.l1]
      rw [rd_at hj, hk1, wrap_succ hj (by omega)]
      refine Ev.pos (by omega) (Ev.pos (by omega) (Ev.pos (by omega) (Ev.pos hy.1 (Ev.pos hy.2 (Ev.pos b0 (Ev.pos b1 ?_))))))
      rw [best_cons] at hv
      refine Ev.ite (fun hlt => ?_) (fun hlt => ?_)
      · rw [if_pos hlt] at hv
        exact ih (j + 1) y (fun q hq => hks q (by simp [hq])) hk2 hy.1 hy.2 v hv
      · rw [if_neg hlt] at hv
        exact ih (j + 1) b (fun q hq => hks q (by simp [hq])) hk2 b0 b1 v hv
  have hxr : rd (nb c r p) 0 = x := by rw [hx]; rfl
  have hxm := hnb x (by rw [hx]; simp)
  have hxsm : ∀ q : Int, q ∈ xs → 0 ≤ q ∧ q < l.length := fun q hq => hnb q (by rw [hx]; simp [hq])
  have hB : 0 ≤ best l x xs ∧ best l x xs < l.length := by
    rcases best_mem l xs x with h | h
    · rw [h]; exact hxm
    · exact hxsm _ h
  have bB := f.rd hB.1 hB.2
  have key : ∀ v, Ev (fun k => spec_l19Path.l1 k p out (nb c r p) (best l x xs) ((nb c r p).length : Int) c r l) v → Ev (fun k => spec_l19Path.l0 k p out c r l) v := by
    intro v hv
    refine Ev.succ ?_
    simp only [spec_l19Path.l0]
    refine Ev.bind (specNb f h0 h1) (Ev.pos (by rw [hx]; simp) ?_)
    rw [hxr]
    exact L xs 1 x hxsm (by rw [hx]; rfl) hxm.1 hxm.2 v hv
  have keyR : ∀ v, Ev (fun k => impl_Surface_flow.l1 k p out (best l p (x :: xs)) (nb c r p) ((nb c r p).length : Int) ((nb c r p).length : Int) c r l) v → Ev (fun k => impl_Surface_flow.l0 k p out c r l) v := by
    intro v hv
    refine Ev.succ ?_
    simp only [impl_Surface_flow.l0]
    refine Ev.bind (implNb f h0 h1) ?_
    exact R (x :: xs) 0 p (fun q hq => hnb q (by rw [hx]; exact hq)) (by rw [hx]; rfl) h0 h1 v hv
  rw [best_two] at keyR
  by_cases hlt : rd l (best l x xs) < rd l p
  · rw [if_pos hlt] at keyR
    obtain ⟨v, hv, e1, e2⟩ := next (best l x xs) (out ++ [best l x xs]) hB.1 hB.2 hlt (by simp; omega) (by simp) (by
      intro q hq
      rcases List.mem_append.1 hq with h | h
      · exact hm q h
      · simp at h; rw [h]; exact hB)
    refine ⟨v, hv, key v ?_, keyR v ?_⟩
    · refine Ev.succ ?_
      simp only [spec_l19Path.l1]
      exact Ev.neg (by omega) (Ev.pos hB.1 (Ev.pos hB.2 (Ev.pos h0 (Ev.pos h1 (Ev.neg (by omega) (Ev.pos (by omega) e1))))))
    · refine Ev.succ ?_
      simp only [impl_Surface_flow.l1]
      exact Ev.neg (by omega) (Ev.neg (fun he => by rw [he] at hlt; omega) (Ev.pos (by omega) e2))
  · rw [if_neg hlt] at keyR
    refine ⟨out, ⟨by omega, hp, hm⟩, key out ?_, keyR out ?_⟩
    · refine Ev.succ ?_
      simp only [spec_l19Path.l1]
      exact Ev.neg (by omega) (Ev.pos hB.1 (Ev.pos hB.2 (Ev.pos h0 (Ev.pos h1 (Ev.pos (by omega) (Ev.now _))))))
    · refine Ev.succ ?_
      simp only [impl_Surface_flow.l1]
      exact Ev.neg (by omega) (Ev.pos trivial (Ev.now _))

theorem flow {c r : Int} {l : List Int} (f : Fit c r l) : ∀ (d : Nat) (p : Int) (out : List Int), 0 ≤ p → p < l.length → rd l p ≤ d → (out.length : Int) + rd l p ≤ 20000 → 0 < out.length → (∀ q : Int, q ∈ out → 0 ≤ q ∧ q < l.length) →
    Both (fun v => v.length ≤ 20000 ∧ 0 < v.length ∧ ∀ q : Int, q ∈ v → 0 ≤ q ∧ q < l.length) (fun k => spec_l19Path.l0 k p out c r l) (fun k => impl_Surface_flow.l0 k p out c r l) := by
  have hs := f.small
  intro d
  induction d with
  | zero =>
    intro p out h0 h1 hd ho hp hm
    exact flowStep f p out h0 h1 ho hp hm (fun q out' q0 q1 hq => by have := (f.rd q0 q1).1; omega)
  | succ d ih =>
    intro p out h0 h1 hd ho hp hm
    exact flowStep f p out h0 h1 ho hp hm (fun q out' q0 q1 hq ho' hp' hm' => ih q out' q0 q1 (by omega) ho' hp' hm')

theorem path {c r : Int} {l : List Int} (f : Fit c r l) (p : Int) (h0 : 0 ≤ p) (h1 : p < l.length) : Both (fun v => v.length ≤ 20000 ∧ 0 < v.length ∧ ∀ q : Int, q ∈ v → 0 ≤ q ∧ q < l.length) (fun k => spec_l19Path.f k c r l p) (fun k => impl_Surface_flow.f k c r l p) := by
  unfold spec_l19Path.f impl_Surface_flow.f
  have b := f.rd h0 h1
  exact flow f 10000 p [p] h0 h1 (by omega) (by simp; omega) (by simp) (by simp; omega)

theorem flowPath (c r : Int) (l : List Int) (p : Int) (h : l.length ≤ 1048576) : Both (fun v => v.1.length ≤ 20000) (fun k => spec_FlowPath.f k c r l p) (fun k => impl_FlowPath.f k c r l p) := by
  unfold spec_FlowPath.f impl_FlowPath.f
  refine Both.bindL (specGood c r l (by omega)) (Both.bindR (implGood c r l (by omega)) ?_)
  refine Both.ite Iff.rfl (fun hg => ?_) (fun _ => Both.some (by simp))
  refine Both.bindCL (l1In _ _ _) (Both.bindCR (within _ _ _) ?_)
  refine Both.ite Iff.rfl (fun hp => ?_) (fun _ => Both.some (by simp))
  rw [wrap_id (by omega) (by omega)] at hp
  simp only [decide_eq_true_eq] at hp
  exact Both.bind (path (fit_of_good hg) p hp.1 (by omega)) (fun v hv => Both.some hv.1)
end Go.Proofs.Ytgojidjfidldbaa.Pf
