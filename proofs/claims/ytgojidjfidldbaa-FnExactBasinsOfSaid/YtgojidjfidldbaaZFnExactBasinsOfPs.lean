/- The surfaces' plain laws. -/
import Derived.Test.YtgojidjfidldbaaZFnExactBasinsOfPi
import Derived.Test.YtgojidjfidldbaaZFnExactBasinsOfB1
import Derived.Test.YtgojidjfidldbaaZFnExactBasinsOfB2
namespace Go.Proofs.Ytgojidjfidldbaa.Ps
open Go.RowKit Go.Proofs.Ytgojidjfidldbaa.Q Go.Proofs.YtgojidjfidldbaaW.PrintWords Go.Proofs.Ytgojidjfidldbaa.Pl Go.Proofs.Ytgojidjfidldbaa.Pi

theorem szSurface (c r : Int) (l : List Int) (h : l.length ≤ maxLen) : ∃ t, laws_szSurface.f c r l 1048576 = some t ∧ (0 ≤ t → l.length ≤ 1048576) := by
  obtain ⟨t, ht, _, hl⟩ := szIntS l 1048576 h (by omega) (by omega)
  unfold laws_szSurface.f
  rw [ht]
  simp only [Option.bind_some]
  by_cases hn : t < 0
  · rw [if_pos hn]; exact ⟨_, rfl, by omega⟩
  · rw [if_neg hn]; exact ⟨_, rfl, hl⟩

theorem toSurface (c r : Int) (l : List Int) (h : l.length ≤ 1048576) : Ev (fun k => laws_toSurface.f k c r l) (c, r, l) := by
  unfold laws_toSurface.f
  exact Ev.bind (toIntS l (by omega)) (Ev.now _)

theorem eqSurface (c r : Int) (l : List Int) (h : l.length ≤ 1048576) : Ev (fun k => laws_eqSurface.f k c r l c r l) true := by
  unfold laws_eqSurface.f
  exact Ev.pos rfl (Ev.pos rfl (Ev.bind (eqIntS l (by omega)) (Ev.pos rfl (Ev.now _))))

theorem markSurface (c r : Int) (l : List Int) (h : l.length ≤ 1048576) : Ev (fun k => laws_markSurface.f k c r l 1) (1 + (l.length : Int), marks 1 l.length) := by
  unfold laws_markSurface.f
  exact Ev.bind (markIntS l 1 (by omega) (by omega) (by omega)) (Ev.now _)

theorem l1In (a b c : Int) : spec_l1In.f a b c = some (decide (b ≤ a ∧ a ≤ c)) := by
  unfold spec_l1In.f
  by_cases h : a ≥ b
  · rw [if_pos h]; congr 1; simp; omega
  · rw [if_neg h]; congr 1; simp; omega
theorem within (a b c : Int) : impl_within.f a b c = some (decide (b ≤ a ∧ a ≤ c)) := by
  unfold impl_within.f
  by_cases h : a ≥ b
  · rw [if_pos h]; congr 1; simp; omega
  · rw [if_neg h]; congr 1; simp; omega

/-- Is a height one of those that occur? -/
def hOk (x : Int) : Bool := decide (0 ≤ x ∧ x ≤ 10000)
def good (c r : Int) (l : List Int) : Bool := decide (2 ≤ c ∧ c ≤ 8) && (decide (2 ≤ r ∧ r ≤ 8) && (decide ((l.length : Int) = wrap64 (c * r)) && l.all hOk))

theorem goodLoop (c r : Int) (l : List Int) (h : l.length ≤ 9223372036854775807) : Ev (fun k => spec_l19Good.l0 k 0 c r l) (l.all hOk) := by
  have key := ev_loop (fun i (_ : Unit) k => spec_l19Good.l0 k (i : Int) c r l) l.length (fun i _ => (l.drop i).all hOk) (fun _ _ => True)
    (fun _ _ => by
      refine Ev.succ ?_
      simp only [spec_l19Good.l0]
      refine Ev.neg (by omega) ((Ev.now _).to (by simp)))
    (fun i _ hi _ ih => by
      refine Ev.succ ?_
      simp only [spec_l19Good.l0]
      refine Ev.pos (by omega) (Ev.pos (by omega) (Ev.bindC (l1In _ _ _) ?_))
      rw [rd_at hi, wrap_succ hi (by omega), all_drop l hOk i hi]
      refine Ev.ite (fun hc => ?_) (fun hc => ?_)
      · exact (ih () trivial).to (by simp [hOk, hc])
      · exact (Ev.now _).to (by simp only [Bool.not_eq_true] at hc; simp [hOk, hc]))
    0 () (Nat.zero_le _) trivial
  simpa using key

theorem specGood (c r : Int) (l : List Int) (h : l.length ≤ 9223372036854775807) : Ev (fun k => spec_l19Good.f k c r l) (good c r l) := by
  have hj : ∀ b, Ev (fun k => spec_l19Good.j0 k b c r l) (!b && l.all hOk) := by
    intro b
    refine Ev.succ ?_
    simp only [spec_l19Good.j0]
    cases b
    · exact Ev.neg (by simp) (goodLoop c r l h)
    · exact Ev.pos rfl (Ev.now _)
  unfold spec_l19Good.f
  refine Ev.bindC (l1In _ _ _) ?_
  refine Ev.ite (fun h1 => ?_) (fun h1 => ?_)
  · refine Ev.bindC (l1In _ _ _) ?_
    refine Ev.ite (fun h2 => ?_) (fun h2 => ?_)
    · exact (hj _).to (by unfold good; rw [h1, h2]; simp [bne, Bool.beq_eq_decide_eq])
    · exact (hj _).to (by simp only [Bool.not_eq_true] at h2; unfold good; rw [h1, h2]; simp)
  · exact (hj _).to (by simp only [Bool.not_eq_true] at h1; unfold good; rw [h1]; simp)

theorem idx (l : List Int) (h : l.length ≤ 9223372036854775807) : ∃ t, Ev (fun k => slices_IndexFunc_int_int_at58.f k l) t ∧ decide (t ≥ 0) = !l.all hOk := by
  have key := ev_loop (fun i (_ : Unit) k => (slices_IndexFunc_int_int_at58.l0 k l (l.length : Int) (i : Int)).bind fun t => some (decide (t ≥ 0))) l.length (fun i _ => !(l.drop i).all hOk) (fun _ _ => True)
    (fun _ _ => by
      refine Ev.succ ?_
      simp only [slices_IndexFunc_int_int_at58.l0]
      refine ⟨0, fun k _ => ?_⟩
      simp)
    (fun i _ hi _ ih => by
      obtain ⟨K, hK⟩ := ih () trivial
      refine ⟨K + 1, fun k hk => ?_⟩
      obtain ⟨m, rfl⟩ : ∃ m, k = m + 1 := ⟨k - 1, by omega⟩
      have h1 : impl_IsValidSurface_1.f (l[i]) = some (!hOk l[i]) := by
        unfold impl_IsValidSurface_1.f
        rw [within]
        rfl
      simp only [slices_IndexFunc_int_int_at58.l0]
      rw [if_pos (by omega), if_pos (by omega), if_pos (by omega), rd_at hi, h1, Option.bind_some, wrap_succ hi (by omega), all_drop l hOk i hi]
      cases hb : hOk l[i]
      · simp
      · simpa using hK m (by omega))
    0 () (Nat.zero_le _) trivial
  obtain ⟨K, hK⟩ := key
  have hK' := hK K (Nat.le_refl _)
  obtain ⟨t, ht, hd⟩ := Option.bind_eq_some_iff.1 hK'
  refine ⟨t, ⟨K, fun k hk => ?_⟩, by simpa using hd⟩
  obtain ⟨t', ht', _⟩ := Option.bind_eq_some_iff.1 (hK k hk)
  have : slices_IndexFunc_int_int_at58.f k l = some t := at_rounds (g := fun k => slices_IndexFunc_int_int_at58.f k l) (fun k => slices_IndexFunc_int_int_at58.mono l k) hk ht
  exact this

theorem implGood (c r : Int) (l : List Int) (h : l.length ≤ 9223372036854775807) : Ev (fun k => impl_IsValidSurface.f k c r l) (good c r l) := by
  unfold impl_IsValidSurface.f
  refine Ev.bindC (within _ _ _) ?_
  refine Ev.ite (fun h1 => ?_) (fun h1 => ?_)
  · refine Ev.bindC (within _ _ _) ?_
    refine Ev.ite (fun h2 => ?_) (fun h2 => ?_)
    · refine Ev.ite (fun h3 => ?_) (fun h3 => ?_)
      · obtain ⟨t, ht, hd⟩ := idx l h
        unfold slices_ContainsFunc_int_int_at58.f
        refine Ev.bind (Ev.bind ht (Ev.now _)) ((Ev.now _).to ?_)
        rw [hd]; unfold good; rw [h1, h2, decide_eq_true h3]; simp
      · exact (Ev.now _).to (by unfold good; rw [h1, h2, decide_eq_false h3]; simp)
    · exact (Ev.now _).to (by simp only [Bool.not_eq_true] at h2; unfold good; rw [h1, h2]; simp)
  · exact (Ev.now _).to (by simp only [Bool.not_eq_true] at h1; unfold good; rw [h1]; simp)
end Go.Proofs.Ytgojidjfidldbaa.Ps
