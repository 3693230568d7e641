/- Slices of numbers in the laws: copied, compared, weighed, marked. -/
import Derived.Test.YtgojidjfidldbaaZFnExactPrecedesPl
import Derived.Test.YtgojidjfidldbaaZFnExactPrecedesB1
namespace Go.Proofs.Ytgojidjfidldbaa.Pi
open Go.RowKit Go.Proofs.Ytgojidjfidldbaa.Q Go.Proofs.YtgojidjfidldbaaW.PrintWords Go.Proofs.Ytgojidjfidldbaa.Pl

theorem toIntS (l : List Int) (h : l.length ≤ 35184372088832) : Ev (fun k => laws_toIntS.f k l) l := by
  have key := ev_loop (fun i (acc : List Int) k => laws_toIntS.l0 k l acc (i : Int)) l.length (fun i acc => acc.take i ++ l.drop i) (fun _ acc => acc.length = l.length)
    (fun acc ha => by
      refine Ev.succ ?_
      simp only [laws_toIntS.l0]
      refine Ev.neg (by omega) ((Ev.now _).to ?_)
      rw [← ha, List.take_length, ha, List.drop_length, List.append_nil])
    (fun i acc hi ha ih => by
      refine Ev.succ ?_
      simp only [laws_toIntS.l0]
      refine Ev.pos (by omega) (Ev.pos (by omega) (Ev.pos (by omega) ?_))
      rw [wrap_succ hi (by omega), rd_at hi]
      refine (ih _ (by rw [List.length_set]; exact ha)).to ?_
      exact take_set_drop acc l i hi ha)
    0 (List.replicate l.length 0) (Nat.zero_le _) (by simp)
  unfold laws_toIntS.f
  refine Ev.pos (by omega) (Ev.pos (by omega) ?_)
  simpa using key

theorem eqIntS (l : List Int) (h : l.length ≤ 9223372036854775807) : Ev (fun k => laws_eqIntS.f k l l) true := by
  have key := ev_loop (fun i (_ : Unit) k => laws_eqIntS.l0 k l l (i : Int)) l.length (fun _ _ => true) (fun _ _ => True)
    (fun _ _ => by
      refine Ev.succ ?_
      simp only [laws_eqIntS.l0]
      exact Ev.neg (by omega) (Ev.now _))
    (fun i _ hi _ ih => by
      refine Ev.succ ?_
      simp only [laws_eqIntS.l0]
      refine Ev.pos (by omega) (Ev.pos (by omega) (Ev.pos (by omega) (Ev.pos trivial ?_)))
      rw [wrap_succ hi (by omega)]
      exact ih () trivial)
    0 () (Nat.zero_le _) trivial
  unfold laws_eqIntS.f
  exact Ev.pos rfl (by simpa using key)

/-- The guard tells that the slice is small. -/
theorem szIntS (l : List Int) (a : Int) (h : l.length ≤ maxLen) (ha : 0 ≤ a) (ha' : a ≤ 1048576) : ∃ t, laws_szIntS.f l a = some t ∧ t ≤ a ∧ (0 ≤ t → l.length ≤ 1048576) := by
  unfold laws_szIntS.f
  unfold maxLen at h
  have e : wrap64 (a - (l.length : Int)) = a - l.length := by unfold wrap64; omega
  rw [e]
  by_cases hn : a - (l.length : Int) < 0
  · rw [if_pos hn]; exact ⟨_, rfl, by omega, by omega⟩
  · rw [if_neg hn]; exact ⟨_, rfl, by omega, by omega⟩

end Go.Proofs.Ytgojidjfidldbaa.Pi
