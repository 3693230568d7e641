import Derived.Test.YtlphkfkcfomlbaaZFnExactApplyStepQx0
import Derived.Test.YtlphkfkcfomlbaaZFnExactApplyStepB1
import Derived.Test.YtlphkfkcfomlbaaZFnExactApplyStepB2
import Derived.Test.YtlphkfkcfomlbaaZFnExactApplyStepB3
import Derived.Test.YtlphkfkcfomlbaaZFnExactApplyStepB4
import Derived.Test.YtlphkfkcfomlbaaZFnExactApplyStepB5
import Derived.Test.YtlphkfkcfomlbaaZFnExactApplyStepPm
namespace Go.Proofs.Ytlphkfkcfomlbaa.Pm
open Go.RowKit Go.Proofs.Ytlphkfkcfomlbaa.Q Go.Proofs.YtlphkfkcfomlbaaW.PrintWords Go.Proofs.Ytlphkfkcfomlbaa.Pl Go.Proofs.Ytlphkfkcfomlbaa.Pname

def okS (l : List S71) : Prop := l.length ≤ 1048576 ∧ ∀ x ∈ l, x.f7.size ≤ 9223372036854775807 ∧ -9223372036854775808 ≤ x.f6 ∧ x.f6 < 9223372036854775808
def sums (l : List S71) (i : Nat) : List Int := (List.range (l.length + 1)).map fun j => gsum (l.take i) (j : Nat)
theorem sums_length (l : List S71) (i : Nat) : (sums l i).length = l.length + 1 := by simp [sums]
theorem sums_get (l : List S71) (i j : Nat) (h : j < l.length + 1) : rd (sums l i) (j : Int) = gsum (l.take i) (j : Nat) := by
  rw [rd_at (by rw [sums_length]; exact h)]
  simp [sums]
theorem sums_set (l : List S71) (i : Nat) (hi : i < l.length) (p : Nat) (hp : (l[i]).f1 = p) (hp' : p < l.length + 1) : (sums l i).set p (wrap64 (rd (sums l i) (p : Int) + (l[i]).f3)) = sums l (i + 1) := by
  rw [sums_get l i p hp']
  apply List.ext_getElem
  · rw [List.length_set, sums_length, sums_length]
  · intro j h1 h2
    rw [List.getElem_set]
    have e : ∀ q (h : j < (sums l q).length), (sums l q)[j] = gsum (l.take q) (j : Nat) := by intro q h; simp [sums]
    rw [e (i + 1), gsum_take l _ i hi, hp]
    by_cases hpj : p = j
    · subst hpj
      rw [if_pos rfl, if_pos rfl]
    · rw [if_neg hpj, if_neg (by omega), e i (by rw [sums_length]; rw [sums_length] at h2; exact h2)]

theorem last (l : List S71) (h : l.length ≤ 1048576) (hid : ∀ i, (hi : i < l.length) → (l[i]).f0 = (i : Int) + 1) (a : List Int) (ha : a = sums l l.length) : Ev (fun k => impl_IsValidSamples.l1 k a l (l.length : Int) 0) (allFr (givB l) 0 l.length) := by
  have key := ev_loop (fun i (_ : Unit) k => impl_IsValidSamples.l1 k a l (l.length : Int) (i : Int)) l.length (fun i _ => allFr (givB l) i (l.length - i)) (fun _ _ => True)
    (fun _ _ => by
      refine Ev.succ ?_
      simp only [impl_IsValidSamples.l1]
      rw [allFr_end]
      exact Ev.neg (by omega) (Ev.now _))
    (fun i _ hi _ ih => by
      refine Ev.succ ?_
      simp only [impl_IsValidSamples.l1]
      rw [wrap_succ hi (by omega), allFr_step _ hi, rdB hi, hid i hi, ha, sums_length]
      have e : rd (sums l l.length) ((i : Int) + 1) = gsum l ((i : Int) + 1) := by
        have := sums_get l l.length (i + 1) (by omega)
        rw [List.take_length] at this
        simpa using this
      rw [e]
      refine Ev.pos (by omega) (Ev.pos (by omega) (Ev.pos (by omega) (Ev.pos (by omega) (Ev.pos (by omega) ?_))))
      have e2 : givB l i = decide (gsum l ((i : Int) + 1) = (l[i]).f6) := by
        unfold givB
        rw [at'_eq hi]
        exact decide_eq_decide.2 ⟨Eq.symm, Eq.symm⟩
      rw [e2]
      refine Ev.ite (fun h2 => (by rw [← ha]; exact ih () trivial : Ev _ _).to (by rw [decide_eq_true h2]; rfl)) (fun h2 => (Ev.now _).to (by rw [decide_eq_false h2]; rfl)))
    0 () (Nat.zero_le _) trivial
  simpa using key

theorem implGood (l : List S71) (hw : okS l) : Ev (fun k => impl_IsValidSamples.f k l) (validB l) := by
  obtain ⟨h, hw⟩ := hw
  unfold impl_IsValidSamples.f validB
  refine Ev.ite (fun h1 => (Ev.now _).to (by rw [decide_eq_false (show ¬ l.length ≤ 16 by omega)]; rfl)) (fun h1 => ?_)
  rw [decide_eq_true (show l.length ≤ 16 by omega), Bool.true_and]
  have e0 : wrap64 ((l.length : Int) + 1) = ((l.length + 1 : Nat) : Int) := by unfold wrap64; omega
  rw [e0]
  refine Ev.pos (by omega) (Ev.pos (by omega) ?_)
  have e1 : List.replicate (((l.length + 1 : Nat) : Int)).toNat (0 : Int) = sums l 0 := by
    rw [Int.toNat_natCast]
    apply List.ext_getElem
    · simp [sums]
    · intro j h1 h2; simp [sums, gsum]
  rw [e1]
  have jT : ∀ a b c d e x f0 f1 f2 f3 f4 f5 f6 f7, x = true → Ev (fun k => impl_IsValidSamples.j1 k a b c d e x f0 f1 f2 f3 f4 f5 f6 f7) false := by
    intro a b c d e x f0 f1 f2 f3 f4 f5 f6 f7 hx
    subst hx
    refine Ev.succ ?_
    simp only [impl_IsValidSamples.j1]
    exact Ev.pos trivial (Ev.now _)
  have jT2 : ∀ a b c d e x f0 f1 f2 f3 f4 f5 f6 f7, x = true → Ev (fun k => impl_IsValidSamples.j2 k a b c d e x f0 f1 f2 f3 f4 f5 f6 f7) false := by
    intro a b c d e x f0 f1 f2 f3 f4 f5 f6 f7 hx
    subst hx
    refine Ev.succ ?_
    simp only [impl_IsValidSamples.j2]
    exact Ev.pos trivial (Ev.now _)
  have key := ev_loop (fun i (a : List Int) k => impl_IsValidSamples.l0 k l a l (l.length : Int) (i : Int)) l.length (fun i _ => allFr (locB l) i (l.length - i) && allFr (givB l) 0 l.length) (fun i a => a = sums l i ∧ ∀ j, (hj : j < i) → (hl : j < l.length) → (l[j]).f0 = (j : Int) + 1)
    (fun a ha => by
      refine Ev.succ ?_
      simp only [impl_IsValidSamples.l0]
      rw [allFr_end, Bool.true_and]
      exact Ev.neg (by omega) (last l h (fun i hi => ha.2 i hi hi) a ha.1))
    (fun i a hi ha ih => by
      have hx := hw _ (List.getElem_mem hi)
      have e1 : wrap64 ((i : Int) + 1) = (i : Int) + 1 := wrap_id (by omega) (by omega)
      have eL : locB l i = (decide (HeadP i (l[i])) && decide (TailP l (l[i]))) := by unfold locB; rw [at'_eq hi]
      refine Ev.succ ?_
      simp only [impl_IsValidSamples.l0]
      rw [allFr_step _ hi, rdB hi, eL, e1]
      have hset := fun p hp hp' => sums_set l i hi p hp hp'
      have ihx := fun (h0 : (l[i]).f0 = (i : Int) + 1) => ih (sums l (i + 1)) ⟨rfl, fun j hj hl => by
        by_cases e : j = i
        · subst e; exact h0
        · exact ha.2 j (by omega) hl⟩
      obtain ⟨rfl, _⟩ := ha
      generalize l[i] = x at hx hset ihx ⊢
      generalize hR : (allFr (locB l) (i + 1) (l.length - (i + 1))) = R at ihx ⊢
      generalize hG : (allFr (givB l) 0 l.length) = G at ihx ⊢
      have F : ¬ HeadP i x → false = (decide (HeadP i x) && decide (TailP l x) && R && G) := fun hn => by rw [decide_eq_false hn]; rfl
      have F2 : ¬ TailP l x → false = (decide (HeadP i x) && decide (TailP l x) && R && G) := fun hn => by rw [decide_eq_false hn, Bool.and_false]; rfl
      refine Ev.pos (by omega) (Ev.pos (by omega) (Ev.pos (by omega) ?_))
      refine Ev.ite (fun h0 => ?_) (fun h0 => (jT _ _ _ _ _ _ _ _ _ _ _ _ _ _ rfl).to (F (fun hh => h0 hh.1)))
      refine Ev.bindC (within _ _ _) (Ev.ite (fun h1 => ?_) (fun h1 => (jT _ _ _ _ _ _ _ _ _ _ _ _ _ _ rfl).to (F (fun hh => h1 (decide_eq_true hh.2.1)))))
      refine Ev.bindC (a := decide (1 ≤ x.f2 ∧ x.f2 ≤ 999)) (by unfold impl_isNumber.f; rw [within]; rfl) (Ev.ite (fun h2 => ?_) (fun h2 => (jT _ _ _ _ _ _ _ _ _ _ _ _ _ _ rfl).to (F (fun hh => h2 (decide_eq_true hh.2.2.1)))))
      refine Ev.bindC (within _ _ _) (Ev.ite (fun h3 => ?_) (fun h3 => (jT _ _ _ _ _ _ _ _ _ _ _ _ _ _ rfl).to (F (fun hh => h3 (decide_eq_true hh.2.2.2.1)))))
      have h1 := of_decide_eq_true h1
      have h2 := of_decide_eq_true h2
      have h3 := of_decide_eq_true h3
      refine Ev.bind (implName _ hx.1) ?_
      cases hn : nameOk x.f7 with
      | false => exact (jT _ _ _ _ _ _ _ _ _ _ _ _ _ _ rfl).to (F (fun hh => by have := hh.2.2.2.2.2.2.2; rw [hn] at this; cases this))
      | true =>
        refine Ev.succ ?_
        simp only [impl_IsValidSamples.j1]
        refine Ev.neg (by simp) ?_
        refine Ev.bindC (within _ _ _) (Ev.ite (fun h4 => ?_) (fun h4 => (jT2 _ _ _ _ _ _ _ _ _ _ _ _ _ _ rfl).to ?_))
        rotate_left
        · by_cases h4' : 0 ≤ x.f4
          · exact F2 (fun hh => h4 (decide_eq_true ⟨h4', hh.1⟩))
          · exact F (fun hh => h4' hh.2.2.2.2.1)
        refine Ev.bindC (within _ _ _) (Ev.ite (fun h5 => ?_) (fun h5 => (jT2 _ _ _ _ _ _ _ _ _ _ _ _ _ _ rfl).to ?_))
        rotate_left
        · by_cases h5' : 0 ≤ x.f5
          · exact F2 (fun hh => h5 (decide_eq_true ⟨h5', hh.2.1⟩))
          · exact F (fun hh => h5' hh.2.2.2.2.2.1)
        have h4 := of_decide_eq_true h4
        have h5 := of_decide_eq_true h5
        refine Ev.bindC (within _ _ _) (Ev.ite (fun h6 => ?_) (fun h6 => (jT2 _ _ _ _ _ _ _ _ _ _ _ _ _ _ rfl).to ?_))
        rotate_left
        · by_cases h6' : 0 ≤ x.f6
          · refine F2 (fun hh => h6 (decide_eq_true ⟨h6', ?_⟩))
            have := hh.2.2.1
            unfold wrap64 at this
            omega
          · exact F (fun hh => h6' hh.2.2.2.2.2.2.1)
        have h6 := of_decide_eq_true h6
        have hH : HeadP i x := ⟨h0, h1, h2, h3, by omega, by omega, by omega, hn⟩
        by_cases h9 : wrap64 (wrap64 (x.f4 + x.f5) + x.f6) = x.f3
        · refine Ev.succ ?_
          simp only [impl_IsValidSamples.j2]
          refine Ev.neg (by simp [h9]) ?_
          have hf1 : x.f1 = ((x.f1.toNat : Nat) : Int) := by omega
          have hs := hset x.f1.toNat hf1 (by omega)
          rw [← hf1] at hs
          have go : (ParP l x) → Ev (fun k => impl_IsValidSamples.l0 k l ((sums l i).set x.f1.toNat (wrap64 (rd (sums l i) x.f1 + x.f3))) l (l.length : Int) ((i : Int) + 1)) (decide (HeadP i x) && decide (TailP l x) && R && G) := fun hp => by
            rw [hs, decide_eq_true hH, decide_eq_true (show TailP l x from ⟨h4.2, h5.2, h9, hp⟩)]
            have := ihx h0
            simpa using this
          refine Ev.ite (fun h10 => ?_) (fun h10 => ?_)
          · have e2 : wrap64 (x.f1 - 1) = x.f1 - 1 := wrap_id (by omega) (by omega)
            rw [e2]
            refine Ev.pos (by omega) (Ev.pos (by omega) ?_)
            refine Ev.ite (fun h11 => ?_) (fun h11 => (Ev.now _).to (F2 (fun hh => hh.2.2.2.elim (fun h12 => by omega) h11)))
            refine Ev.pos (by omega) (Ev.pos (by rw [sums_length]; omega) ?_)
            rw [e1]; exact go (Or.inr h11)
          · refine Ev.pos (by omega) (Ev.pos (by rw [sums_length]; omega) ?_)
            rw [e1]; exact go (Or.inl (by omega))
        · exact (jT2 _ _ _ _ _ _ _ _ _ _ _ _ _ _ (by simp [h9])).to (F2 (fun hh => h9 hh.2.2.1)))
    0 (sums l 0) (Nat.zero_le _) ⟨rfl, fun j hj _ => by omega⟩
  simpa using key

theorem valid {l : List S71} (h : validB l = true) : l.length ≤ 16 ∧ ∀ i, (hi : i < l.length) → HeadP i (l[i]) := by
  unfold validB at h
  simp only [Bool.and_eq_true, decide_eq_true_eq] at h
  refine ⟨h.1, fun i hi => ?_⟩
  have := allFr_all _ _ _ h.2.1 i (Nat.zero_le _) (by omega)
  unfold locB at this
  simp only [Bool.and_eq_true, decide_eq_true_eq] at this
  rw [at'_eq hi] at this
  exact this.1

theorem okS_of {l : List S95} (h : ∀ x ∈ l, wf95 x) (hl : l.length ≤ 1048576) : okS (l.map toS) := by
  refine ⟨by simpa using hl, fun x hx => ?_⟩
  obtain ⟨y, hy, rfl⟩ := List.mem_map.1 hx
  have := h y hy
  obtain ⟨_, _, _, _, _, _, h6, h7⟩ := this
  unfold maxLen at h7
  simp only [Lit.wf] at h6
  have h6' : -9223372036854775808 ≤ y.f6 ∧ y.f6 < 9223372036854775808 := by
    have hm : IntKind.min .i64 = -9223372036854775808 := by decide
    have : IntKind.i64.min ≤ y.f6 ∧ y.f6 ≤ 9223372036854775807 := by simpa using h6
    rw [hm] at this
    omega
  exact ⟨by show y.f7.size ≤ _; omega, h6'.1, h6'.2⟩

theorem specGood' (l : List S71) (hw : okS l) : Ev (fun k => spec_l20Good.f k l) (validB l) := specGood l hw.1 (fun x hx => (hw.2 x hx).1)
end Go.Proofs.Ytlphkfkcfomlbaa.Pm
