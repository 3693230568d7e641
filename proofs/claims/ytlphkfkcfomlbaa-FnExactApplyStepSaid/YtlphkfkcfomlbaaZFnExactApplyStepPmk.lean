import Derived.Test.YtlphkfkcfomlbaaZFnExactApplyStepQx0
import Derived.Test.YtlphkfkcfomlbaaZFnExactApplyStepB1
import Derived.Test.YtlphkfkcfomlbaaZFnExactApplyStepB2
import Derived.Test.YtlphkfkcfomlbaaZFnExactApplyStepB3
import Derived.Test.YtlphkfkcfomlbaaZFnExactApplyStepB4
import Derived.Test.YtlphkfkcfomlbaaZFnExactApplyStepB5
import Derived.Test.YtlphkfkcfomlbaaZFnExactApplyStepPm
import Derived.Test.YtlphkfkcfomlbaaZFnExactApplyStepPt
namespace Go.Proofs.Ytlphkfkcfomlbaa.Pm
open Go.RowKit Go.Proofs.Ytlphkfkcfomlbaa.Q Go.Proofs.YtlphkfkcfomlbaaW.PrintWords Go.Proofs.Ytlphkfkcfomlbaa.Pl Go.Proofs.Ytlphkfkcfomlbaa.Pt

noncomputable def mkX (a : Int) : S71 := ⟨a, a + 1, a + 2, a + 3, a + 4, a + 5, a + 6, mt (a + 7)⟩
noncomputable def xmarks (a : Int) (n : Nat) : List S71 := (List.range n).map fun i => mkX (a + 8 * (i : Nat))
theorem xmarks_length (a : Int) (n : Nat) : (xmarks a n).length = n := by simp [xmarks]
theorem xmarks_get (a : Int) (n i : Nat) (h : i < (xmarks a n).length) : (xmarks a n)[i] = mkX (a + 8 * (i : Nat)) := by simp [xmarks]
theorem wr (a : Int) (h0 : 0 ≤ a) (h1 : a ≤ 1099511627776) : wrap64 (a + 1) = a + 1 ∧ wrap64 (a + 1 + 1) = a + 2 ∧ wrap64 (a + 2 + 1) = a + 3 ∧ wrap64 (a + 3 + 1) = a + 4 ∧ wrap64 (a + 4 + 1) = a + 5 ∧ wrap64 (a + 5 + 1) = a + 6 ∧ wrap64 (a + 6 + 1) = a + 7 ∧ wrap64 (a + 7 + 1) = a + 8 := by
  refine ⟨?_, ?_, ?_, ?_, ?_, ?_, ?_, ?_⟩ <;> (unfold wrap64; omega)

theorem markX (l : List S71) (a : Int) (h : l.length ≤ 1048577) (ha : 0 ≤ a) (ha' : a ≤ 1048576) : Ev (fun k => laws_markSampleS.f k l a) (a + 8 * (l.length : Int), xmarks a l.length) := by
  have key := ev_loop (fun i (acc : List S71) k => laws_markSampleS.l0 k acc (a + 8 * (i : Nat)) (i : Int)) l.length (fun i acc => (a + 8 * (l.length : Int), acc.take i ++ (xmarks a l.length).drop i)) (fun _ acc => acc.length = l.length)
    (fun acc hl => by
      refine Ev.succ ?_
      simp only [laws_markSampleS.l0]
      refine Ev.neg (by omega) ((Ev.now _).to ?_)
      rw [← hl, List.take_length, hl, List.drop_of_length_le (by rw [xmarks_length]; exact Nat.le_refl _), List.append_nil])
    (fun i acc hi hl ih => by
      refine Ev.succ ?_
      simp only [laws_markSampleS.l0]
      obtain ⟨w1, w2, w3, w4, w5, w6, w7, w8⟩ := wr (a + 8 * (i : Nat)) (by omega) (by omega)
      have w9 : a + 8 * (i : Nat) + 8 = a + 8 * ((i + 1 : Nat) : Int) := by omega
      rw [w1, w2, w3, w4, w5, w6, w7, w8, w9, wrap_succ hi (by omega)]
      have hia : i < acc.length := by omega
      have r1 : ∀ e : S71, rd_T71 (acc.set i e) (i : Int) = e := fun e => by rw [rdB (by rw [List.length_set]; exact hia)]; simp
      have r2 : rd_T71 acc (i : Int) = acc[i] := rdB hia
      refine Ev.pos (by omega) (Ev.pos (by omega) ?_)
      have st : ∀ (x : S71) {β : Type} (F : Nat → List S71 → Option β) (r : β) (y : List S71), y = acc.set i x → Ev (fun k => F k (acc.set i x)) r → Ev (fun k => (some y).bind (F k)) r := fun x _ F r y hy hF => by
        subst hy
        exact hF
      refine st ⟨a + 8 * (i : Nat), (acc[i]).f1, (acc[i]).f2, (acc[i]).f3, (acc[i]).f4, (acc[i]).f5, (acc[i]).f6, (acc[i]).f7⟩ _ _ _ (by rw [r2]; rfl) ?_
      refine st ⟨a + 8 * (i : Nat), a + 8 * (i : Nat) + 1, (acc[i]).f2, (acc[i]).f3, (acc[i]).f4, (acc[i]).f5, (acc[i]).f6, (acc[i]).f7⟩ _ _ _ (by rw [r1, Int.toNat_natCast, List.set_set]) ?_
      refine st ⟨a + 8 * (i : Nat), a + 8 * (i : Nat) + 1, a + 8 * (i : Nat) + 2, (acc[i]).f3, (acc[i]).f4, (acc[i]).f5, (acc[i]).f6, (acc[i]).f7⟩ _ _ _ (by rw [r1, Int.toNat_natCast, List.set_set]) ?_
      refine st ⟨a + 8 * (i : Nat), a + 8 * (i : Nat) + 1, a + 8 * (i : Nat) + 2, a + 8 * (i : Nat) + 3, (acc[i]).f4, (acc[i]).f5, (acc[i]).f6, (acc[i]).f7⟩ _ _ _ (by rw [r1, Int.toNat_natCast, List.set_set]) ?_
      refine st ⟨a + 8 * (i : Nat), a + 8 * (i : Nat) + 1, a + 8 * (i : Nat) + 2, a + 8 * (i : Nat) + 3, a + 8 * (i : Nat) + 4, (acc[i]).f5, (acc[i]).f6, (acc[i]).f7⟩ _ _ _ (by rw [r1, Int.toNat_natCast, List.set_set]) ?_
      refine st ⟨a + 8 * (i : Nat), a + 8 * (i : Nat) + 1, a + 8 * (i : Nat) + 2, a + 8 * (i : Nat) + 3, a + 8 * (i : Nat) + 4, a + 8 * (i : Nat) + 5, (acc[i]).f6, (acc[i]).f7⟩ _ _ _ (by rw [r1, Int.toNat_natCast, List.set_set]) ?_
      refine st ⟨a + 8 * (i : Nat), a + 8 * (i : Nat) + 1, a + 8 * (i : Nat) + 2, a + 8 * (i : Nat) + 3, a + 8 * (i : Nat) + 4, a + 8 * (i : Nat) + 5, a + 8 * (i : Nat) + 6, (acc[i]).f7⟩ _ _ _ (by rw [r1, Int.toNat_natCast, List.set_set]) ?_
      refine Ev.bind (markText _ (by omega)) ?_
      rw [r1, Int.toNat_natCast, List.set_set]
      refine (ih _ (by rw [List.length_set]; exact hl)).to ?_
      have hm : i < (xmarks a l.length).length := by rw [xmarks_length]; exact hi
      have := take_set_drop acc (xmarks a l.length) i hm (by rw [xmarks_length]; exact hl)
      rw [xmarks_get a l.length i hm] at this
      rw [← this]
      rfl)
    0 l (Nat.zero_le _) rfl
  unfold laws_markSampleS.f
  simpa using key

theorem heldX (a : Int) (n : Nat) (h : n ≤ 1048577) (ha : 0 ≤ a) (ha' : a ≤ 1048576) : Ev (fun k => laws_heldSampleS.f k (xmarks a n) a) (a + 8 * (n : Int)) := by
  have key := ev_loop (fun i (_ : Unit) k => laws_heldSampleS.l0 k (xmarks a n) (a + 8 * (i : Nat)) (i : Int)) n (fun _ _ => a + 8 * (n : Int)) (fun _ _ => True)
    (fun _ _ => by
      refine Ev.succ ?_
      simp only [laws_heldSampleS.l0]
      exact Ev.neg (by rw [xmarks_length]; omega) (Ev.now _))
    (fun i _ hi _ ih => by
      refine Ev.succ ?_
      simp only [laws_heldSampleS.l0]
      have hm : i < (xmarks a n).length := by rw [xmarks_length]; exact hi
      obtain ⟨w1, w2, w3, w4, w5, w6, w7, w8⟩ := wr (a + 8 * (i : Nat)) (by omega) (by omega)
      have w9 : a + 8 * (i : Nat) + 8 = a + 8 * ((i + 1 : Nat) : Int) := by omega
      rw [rdB hm, xmarks_get, w1, w2, w3, w4, w5, w6, w7, w8, w9, wrap_succ hi (by omega)]
      refine Ev.pos (by rw [xmarks_length]; omega) (Ev.pos (by omega) (Ev.pos rfl (Ev.pos rfl (Ev.pos rfl (Ev.pos rfl (Ev.pos rfl (Ev.pos rfl (Ev.pos rfl (Ev.bind (markText _ (by omega)) (Ev.pos rfl ?_))))))))))
      exact ih () trivial)
    0 () (Nat.zero_le _) trivial
  unfold laws_heldSampleS.f
  simpa using key
end Go.Proofs.Ytlphkfkcfomlbaa.Pm
