import Derived.Test.YtodombkmnnggeaaZFnExactChangedItemsQx0
import Derived.Test.YtodombkmnnggeaaZFnExactChangedItemsB1
import Derived.Test.YtodombkmnnggeaaZFnExactChangedItemsB2
import Derived.Test.YtodombkmnnggeaaZFnExactChangedItemsB3
import Derived.Test.YtodombkmnnggeaaZFnExactChangedItemsPt
namespace Go.Proofs.Ytodombkmnnggeaa.Pss
open Go.RowKit Go.Proofs.Ytodombkmnnggeaa.Q Go.Proofs.YtodombkmnnggeaaW.PrintWords Go.Proofs.Ytodombkmnnggeaa.Pl Go.Proofs.Ytodombkmnnggeaa.Pt

theorem rdS {l : List ByteArray} {i : Nat} (h : i < l.length) : rdOf ByteArray.empty l (i : Int) = l[i] := by
  unfold rdOf
  exact getD_at h
theorem eqStringS (l : List ByteArray) (h : l.length ≤ 1048577) : Ev (fun k => laws_eqStringS.f k l l) true := by
  have key := ev_loop (fun i (_ : Unit) k => laws_eqStringS.l0 k l l (i : Int)) l.length (fun _ _ => true) (fun _ _ => True)
    (fun _ _ => by
      refine Ev.succ ?_
      simp only [laws_eqStringS.l0]
      exact Ev.neg (by omega) (Ev.now _))
    (fun i _ hi _ ih => by
      refine Ev.succ ?_
      simp only [laws_eqStringS.l0]
      rw [wrap_succ hi (by omega)]
      refine Ev.pos (by omega) (Ev.pos (by omega) (Ev.pos (by omega) (Ev.pos (by first | trivial | rfl) ?_)))
      exact ih () trivial)
    0 () (Nat.zero_le _) trivial
  unfold laws_eqStringS.f
  exact Ev.pos rfl (by simpa using key)
noncomputable def smarks (a : Int) (n : Nat) : List ByteArray := (List.range n).map fun i => mt (a + (i : Nat))
theorem smarks_length (a : Int) (n : Nat) : (smarks a n).length = n := by simp [smarks]
theorem smarks_get (a : Int) (n i : Nat) (h : i < (smarks a n).length) : (smarks a n)[i] = mt (a + (i : Nat)) := by simp [smarks]
theorem markStringS (l : List ByteArray) (a : Int) (h : l.length ≤ 1048577) (ha : 0 ≤ a) (ha' : a ≤ 1048576) : Ev (fun k => laws_markStringS.f k l a) (a + (l.length : Int), smarks a l.length) := by
  have key := ev_loop (fun i (acc : List ByteArray) k => laws_markStringS.l0 k acc (a + (i : Nat)) (i : Int)) l.length (fun i acc => (a + (l.length : Int), acc.take i ++ (smarks a l.length).drop i)) (fun _ acc => acc.length = l.length)
    (fun acc hl => by
      refine Ev.succ ?_
      simp only [laws_markStringS.l0]
      refine Ev.neg (by omega) ((Ev.now _).to ?_)
      rw [← hl, List.take_length, hl, List.drop_of_length_le (by rw [smarks_length]; exact Nat.le_refl _), List.append_nil])
    (fun i acc hi hl ih => by
      refine Ev.succ ?_
      simp only [laws_markStringS.l0]
      have e : wrap64 (a + (i : Nat) + 1) = a + ((i + 1 : Nat) : Int) := by unfold wrap64; omega
      rw [wrap_succ hi (by omega), e]
      refine Ev.pos (by omega) (Ev.bind (markText _ (by omega)) (Ev.pos (by omega) ?_))
      refine (ih _ (by rw [List.length_set]; exact hl)).to ?_
      have hm : i < (smarks a l.length).length := by rw [smarks_length]; exact hi
      have := take_set_drop acc (smarks a l.length) i hm (by rw [smarks_length]; exact hl)
      rw [smarks_get a l.length i hm] at this
      rw [Int.toNat_natCast, this])
    0 l (Nat.zero_le _) rfl
  unfold laws_markStringS.f
  simpa using key
theorem heldStringS (a : Int) (n : Nat) (h : n ≤ 1048577) (ha : 0 ≤ a) (ha' : a ≤ 1048576) : Ev (fun k => laws_heldStringS.f k (smarks a n) a) (a + (n : Int)) := by
  have key := ev_loop (fun i (_ : Unit) k => laws_heldStringS.l0 k (smarks a n) (a + (i : Nat)) (i : Int)) n (fun _ _ => a + (n : Int)) (fun _ _ => True)
    (fun _ _ => by
      refine Ev.succ ?_
      simp only [laws_heldStringS.l0]
      exact Ev.neg (by rw [smarks_length]; omega) (Ev.now _))
    (fun i _ hi _ ih => by
      refine Ev.succ ?_
      simp only [laws_heldStringS.l0]
      have hm : i < (smarks a n).length := by rw [smarks_length]; exact hi
      have e : wrap64 (a + (i : Nat) + 1) = a + ((i + 1 : Nat) : Int) := by unfold wrap64; omega
      rw [rdS hm, smarks_get, wrap_succ hi (by omega), e]
      refine Ev.pos (by rw [smarks_length]; omega) (Ev.pos (by omega) (Ev.bind (markText _ (by omega)) (Ev.pos rfl ?_)))
      exact ih () trivial)
    0 () (Nat.zero_le _) trivial
  unfold laws_heldStringS.f
  simpa using key
end Go.Proofs.Ytodombkmnnggeaa.Pss
