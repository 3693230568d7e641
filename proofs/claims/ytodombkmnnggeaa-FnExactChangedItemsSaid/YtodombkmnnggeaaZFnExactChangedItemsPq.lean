import Derived.Test.YtodombkmnnggeaaZFnExactChangedItemsQx0
import Derived.Test.YtodombkmnnggeaaZFnExactChangedItemsB1
import Derived.Test.YtodombkmnnggeaaZFnExactChangedItemsB2
import Derived.Test.YtodombkmnnggeaaZFnExactChangedItemsB3
import Derived.Test.YtodombkmnnggeaaZFnExactChangedItemsPp
namespace Go.Proofs.Ytodombkmnnggeaa.Pp
open Go.RowKit Go.Proofs.Ytodombkmnnggeaa.Q Go.Proofs.YtodombkmnnggeaaW.PrintWords Go.Proofs.Ytodombkmnnggeaa.Pl Go.Proofs.Ytodombkmnnggeaa.Pname Go.Proofs.Ytodombkmnnggeaa.Pr

def resI (p : List S120 × Bool) : List S123 × Bool := if p.2 = true then (p.1.map cv, true) else ([], false)

theorem implPlay (l : List S70) (ho : okE l) : Ev (fun k => impl_replayed.l0 k [] l (l.length : Int) 0) (resI (play l [])) := by
  obtain ⟨hl, hw⟩ := ho
  have j2F : ∀ a b c d e b1 f g h, b1 = false → Ev (fun k => impl_replayed.j2 k a b c d e b1 f g h) ([], false) := by
    intro a b c d e b1 f g h hb
    subst hb
    refine Ev.succ ?_
    simp only [impl_replayed.j2]
    exact Ev.neg (by simp) (Ev.now _)
  have j1T : ∀ a b c d f g h, Ev (fun k => impl_replayed.j1 k a b c d true f g h) ([], false) := by
    intro a b c d f g h
    refine Ev.succ ?_
    simp only [impl_replayed.j1]
    exact Ev.pos trivial (Ev.now _)
  have key := ev_loop (fun i (y : List S120) k => impl_replayed.l0 k (y.map cv) l (l.length : Int) (i : Int)) l.length (fun i y => resI (play (l.drop i) y)) (fun i y => y.length ≤ i)
    (fun y _ => by
      refine Ev.succ ?_
      simp only [impl_replayed.l0]
      rw [List.drop_length]
      exact Ev.neg (by omega) (Ev.now _))
    (fun i y hi hy ih => by
      obtain ⟨hx1, hx2⟩ := hw _ (List.getElem_mem hi)
      refine Ev.succ ?_
      simp only [impl_replayed.l0]
      rw [play_at l i hi, rdB hi]
      have ihs : ∀ y' z, stepE y l[i] = some y' → z = y'.map cv → Ev (fun k => impl_replayed.l0 k z l (l.length : Int) (wrap64 ((i : Int) + 1))) (resI (match stepE y l[i] with | none => (y, false) | some y' => play (l.drop (i + 1)) y')) := fun y' z h hz => by
        have := stepE_length h
        rw [h, wrap_succ hi (by omega), hz]
        exact ih y' (by omega)
      have F : stepE y l[i] = none → ([], false) = resI (match stepE y l[i] with | none => (y, false) | some y' => play (l.drop (i + 1)) y') := fun h => by rw [h]; rfl
      generalize l[i] = e at hx1 hx2 ihs F ⊢
      generalize hP : resI (match stepE y e with | none => (y, false) | some y' => play (l.drop (i + 1)) y') = P at ihs F ⊢
      have hfi := find_in y e.f1
      refine Ev.pos (by omega) (Ev.pos (by omega) (Ev.pos (by omega) (Ev.bind (implName _ hx1) ?_)))
      refine Ev.ite (fun hn => Ev.bind (implText _ hx2) ?_) (fun hn => (j1T _ _ _ _ _ _ _).to (F (if_neg (fun hh => hn hh.1))))
      cases ht : textOk e.f2 with
      | false => exact (j1T _ _ _ _ _ _ _).to (F (if_neg (fun hh => by rw [ht] at hh; cases hh.2)))
      | true =>
        have hs : stepE y e = _ := if_pos ⟨hn, ht⟩
        refine Ev.succ ?_
        simp only [impl_replayed.j1]
        refine Ev.neg (by simp) (Ev.bind (implFind y e.f0 e.f1 e.f2 (by omega)) ?_)
        generalize hf : find y e.f1 = t at hfi hs ⊢
        refine Ev.ite (fun h2 => ?_) (fun h2 => ?_)
        · refine Ev.ite (fun h1 => Ev.pos (by simp; omega) (ihs _ _ (by rw [hs, if_pos h1, if_pos h2]) (by simp [cv]))) (fun h1 => (Ev.now _).to (F (by rw [hs, if_neg h1, if_pos h2])))
        · refine Ev.ite (fun h1 => (Ev.now _).to (F (by rw [hs, if_pos h1, if_neg h2]))) (fun h1 => ?_)
          rw [if_neg h1, if_neg h2] at hs
          have ht0 : t = ((t.toNat : Nat) : Int) := by omega
          have htl : t.toNat < y.length := by omega
          have hrd : rd_T123 (y.map cv) t = cv (rd_T120 y t) := by rw [ht0]; exact rdC htl
          rw [hrd]
          refine Ev.ite (fun h3 => ?_) (fun h3 => ?_)
          · rw [if_pos h3] at hs
            refine Ev.pos (by omega) (Ev.pos (by simp; omega) ?_)
            exact Ev.ite (fun hv => (Ev.now _).to (F (by rw [hs]; exact if_pos hv))) (fun hv => ihs _ _ (by rw [hs]; exact if_neg hv) (by rw [List.map_set]; rfl))
          · rw [if_neg h3] at hs
            have j2T : (e.f0 = 3 ∨ e.f0 = 4) → ∀ b1, b1 = true → Ev (fun k => impl_replayed.j2 k (y.map cv) t l (l.length : Int) (i : Int) b1 e.f0 e.f1 e.f2) P := by
              intro h4 b1 hb
              subst hb
              rw [if_pos h4] at hs
              refine Ev.succ ?_
              simp only [impl_replayed.j2]
              rw [hrd]
              refine Ev.pos trivial ?_
              refine Ev.ite (fun h5 => ?_) (fun h5 => (Ev.now _).to (F (by rw [hs, if_neg h5])))
              rw [if_pos h5] at hs
              refine Ev.pos (by omega) (Ev.pos (by simp; omega) ?_)
              refine Ev.ite (fun hv => Ev.ite (fun h6 => ihs _ _ (by rw [hs, if_pos ⟨fun _ => h6, fun _ => hv⟩]) (by rw [List.map_set]; rfl)) (fun h6 => (Ev.now _).to (F (by rw [hs, if_neg (fun hh => h6 (hh.1 hv))])))) (fun hv => Ev.ite (fun h6 => (Ev.now _).to (F (by rw [hs, if_neg (fun hh => hv (hh.2 h6))]))) (fun h6 => ihs _ _ (by rw [hs, if_pos ⟨fun hh => absurd hh hv, fun hh => absurd hh h6⟩]) (by rw [List.map_set]; rfl)))
            refine Ev.ite (fun h4 => j2T (Or.inl h4) _ (beq_iff_eq.2 h4)) (fun h4 => ?_)
            by_cases h7 : e.f0 = 4
            · exact j2T (Or.inr h7) _ (beq_iff_eq.2 h7)
            · exact (j2F _ _ _ _ _ _ _ _ _ (beq_eq_false_iff_ne.2 h7)).to (F (by rw [hs, if_neg (fun hh => hh.elim h4 h7)])))
    0 [] (Nat.zero_le _) (Nat.le_refl _)
  simpa using key

def good (l : List S70) : Bool := decide (l.length ≤ 40) && (play l []).2
theorem specGood (l : List S70) (ho : okE l) : Ev (fun k => spec_l21Good.f k l) (good l) := by
  unfold spec_l21Good.f good
  refine Ev.ite (fun h1 => (Ev.now _).to (by rw [decide_eq_false (show ¬ l.length ≤ 40 by omega)]; rfl)) (fun h1 => ?_)
  rw [decide_eq_true (show l.length ≤ 40 by omega), Bool.true_and]
  exact Ev.bind (specPlay l ho) (Ev.now _)
def items (l : List S70) : List S120 := if good l = true then (play l []).1 else []
theorem implReplayed (l : List S70) (ho : okE l) : Ev (fun k => impl_replayed.f k l) ((items l).map cv, good l) := by
  unfold impl_replayed.f items good
  refine Ev.ite (fun h1 => (Ev.now _).to (by rw [decide_eq_false (show ¬ l.length ≤ 40 by omega)]; rfl)) (fun h1 => ?_)
  rw [decide_eq_true (show l.length ≤ 40 by omega), Bool.true_and]
  refine (implPlay l ho).to ?_
  unfold resI
  cases hp : (play l []).2 with
  | false => rfl
  | true => rfl
theorem play_length : ∀ (l : List S70) (y : List S120), (play l y).1.length ≤ y.length + l.length
  | [], y => by show y.length ≤ _; simp
  | e :: es, y => by
    unfold play
    cases h : stepE y e with
    | none => show y.length ≤ _; omega
    | some y' =>
      have := stepE_length h
      have := play_length es y'
      show (play es y').1.length ≤ _
      simp only [List.length_cons]
      omega
theorem good_length {l : List S70} (h : good l = true) : l.length ≤ 40 := by
  unfold good at h
  simp only [Bool.and_eq_true, decide_eq_true_eq] at h
  exact h.1
theorem items_length (l : List S70) : (items l).length ≤ 40 := by
  unfold items
  split
  · rename_i h
    have := good_length h
    have h2 := play_length l []
    simp only [List.length_nil] at h2
    omega
  · simp
theorem items_good {l : List S70} (h : good l = true) : (play l []).1 = items l := by
  unfold items
  rw [if_pos h]
end Go.Proofs.Ytodombkmnnggeaa.Pp
