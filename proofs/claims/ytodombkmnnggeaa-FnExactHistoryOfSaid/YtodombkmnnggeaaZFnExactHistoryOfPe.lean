/- Slices of numbers in the laws: copied, compared, weighed, marked. -/
import Derived.Test.YtodombkmnnggeaaZFnExactHistoryOfPl
import Derived.Test.YtodombkmnnggeaaZFnExactHistoryOfB3
namespace Go.Proofs.Ytodombkmnnggeaa.Pi
open Go.RowKit Go.Proofs.Ytodombkmnnggeaa.Q Go.Proofs.YtodombkmnnggeaaW.PrintWords Go.Proofs.Ytodombkmnnggeaa.Pl

theorem eqIntS (l : List Int) (h : l.length ≤ 9223372036854775807) : Ev (fun k => laws_eqIntS.f k l l) true := by
  have key := ev_loop (fun i (_ : Unit) k => laws_eqIntS.l0 k l l (i : Int)) l.length (fun _ _ => true) (fun _ _ => True)
    (fun _ _ => by
      refine Ev.succ ?_
      simp only [laws_eqIntS.l0]
      exact Ev.neg (by omega) (Ev.now _))
    (fun i _ hi _ ih => by
      refine Ev.succ ?_
      simp only [laws_eqIntS.l0]
      refine Ev.pos (by omega) (Ev.pos (by omega) (Ev.pos (by omega) (Ev.pos trivial ?_)))
      rw [wrap_succ hi (by omega)]
      exact ih () trivial)
    0 () (Nat.zero_le _) trivial
  unfold laws_eqIntS.f
  exact Ev.pos rfl (by simpa using key)

/-- The marks from a on. -/
def marks (a : Int) (n : Nat) : List Int := (List.range n).map fun i => a + (i : Nat)
theorem marks_length (a : Int) (n : Nat) : (marks a n).length = n := by simp [marks]
theorem marks_get (a : Int) (n i : Nat) (h : i < (marks a n).length) : (marks a n)[i] = a + (i : Nat) := by simp [marks]

theorem markIntS (l : List Int) (a : Int) (h : l.length ≤ 1099511627776) (ha : 0 ≤ a) (ha' : a ≤ 1099511627776) : Ev (fun k => laws_markIntS.f k l a) (a + (l.length : Int), marks a l.length) := by
  have key := ev_loop (fun i (acc : List Int) k => laws_markIntS.l0 k acc (a + (i : Nat)) (i : Int)) l.length (fun i acc => (a + (l.length : Int), acc.take i ++ (marks a l.length).drop i)) (fun _ acc => acc.length = l.length)
    (fun acc hl => by
      refine Ev.succ ?_
      simp only [laws_markIntS.l0]
      refine Ev.neg (by omega) ((Ev.now _).to ?_)
      rw [← hl, List.take_length, hl, List.drop_of_length_le (by rw [marks_length]; exact Nat.le_refl _), List.append_nil])
    (fun i acc hi hl ih => by
      refine Ev.succ ?_
      simp only [laws_markIntS.l0]
      refine Ev.pos (by omega) (Ev.pos (by omega) ?_)
      have e : wrap64 (a + (i : Nat) + 1) = a + ((i + 1 : Nat) : Int) := by unfold wrap64; omega
      rw [wrap_succ hi (by omega), e]
      refine (ih _ (by rw [List.length_set]; exact hl)).to ?_
      have hm : i < (marks a l.length).length := by rw [marks_length]; exact hi
      have := take_set_drop acc (marks a l.length) i hm (by rw [marks_length]; exact hl)
      rw [marks_get a l.length i hm] at this
      rw [Int.toNat_natCast, this])
    0 l (Nat.zero_le _) rfl
  unfold laws_markIntS.f
  simpa using key

theorem heldIntS (a : Int) (n : Nat) (h : n ≤ 1099511627776) (ha : 0 ≤ a) (ha' : a ≤ 1099511627776) : Ev (fun k => laws_heldIntS.f k (marks a n) a) (a + (n : Int)) := by
  have key := ev_loop (fun i (_ : Unit) k => laws_heldIntS.l0 k (marks a n) (a + (i : Nat)) (i : Int)) n (fun _ _ => a + (n : Int)) (fun _ _ => True)
    (fun _ _ => by
      refine Ev.succ ?_
      simp only [laws_heldIntS.l0]
      exact Ev.neg (by rw [marks_length]; omega) (Ev.now _))
    (fun i _ hi _ ih => by
      refine Ev.succ ?_
      simp only [laws_heldIntS.l0]
      have hm : i < (marks a n).length := by rw [marks_length]; exact hi
      have e : wrap64 (a + (i : Nat) + 1) = a + ((i + 1 : Nat) : Int) := by unfold wrap64; omega
      rw [rd_at hm, marks_get, wrap_succ hi (by omega), e]
      refine Ev.pos (by rw [marks_length]; omega) (Ev.pos (by omega) (Ev.pos rfl ?_))
      exact ih () trivial)
    0 () (Nat.zero_le _) trivial
  unfold laws_heldIntS.f
  simpa using key
end Go.Proofs.Ytodombkmnnggeaa.Pi
