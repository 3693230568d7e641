import Derived.Test.YtodombkmnnggeaaZFnExactChangedItemsQx0
import Derived.Test.YtodombkmnnggeaaZFnExactChangedItemsB1
import Derived.Test.YtodombkmnnggeaaZFnExactChangedItemsB2
import Derived.Test.YtodombkmnnggeaaZFnExactChangedItemsB3
import Derived.Test.YtodombkmnnggeaaZFnExactChangedItemsPr
namespace Go.Proofs.Ytodombkmnnggeaa.Pp
open Go.RowKit Go.Proofs.Ytodombkmnnggeaa.Q Go.Proofs.YtodombkmnnggeaaW.PrintWords Go.Proofs.Ytodombkmnnggeaa.Pl Go.Proofs.Ytodombkmnnggeaa.Pname Go.Proofs.Ytodombkmnnggeaa.Pr

def cv (x : S120) : S123 := ⟨x.f0, x.f1, x.f2⟩
theorem rdI {l : List S120} {i : Nat} (h : i < l.length) : rd_T120 l (i : Int) = l[i] := getD_at h
theorem rdJ {l : List S123} {i : Nat} (h : i < l.length) : rd_T123 l (i : Int) = l[i] := getD_at h
theorem rdC {l : List S120} {i : Nat} (h : i < l.length) : rd_T123 (l.map cv) (i : Int) = cv (rd_T120 l (i : Int)) := by
  rw [rdI h, rdJ (by simpa using h), List.getElem_map]

def findFr (P : Nat → Bool) (i : Nat) : Nat → Int
  | 0 => -1
  | n + 1 => if P i then (i : Int) else findFr P (i + 1) n
theorem findFr_step (P : Nat → Bool) {i n : Nat} (h : i < n) : findFr P i (n - i) = if P i then (i : Int) else findFr P (i + 1) (n - (i + 1)) := by
  rw [show n - i = (n - (i + 1)) + 1 by omega]
  rfl
theorem findFr_end (P : Nat → Bool) (n : Nat) : findFr P n (n - n) = -1 := by rw [Nat.sub_self]; rfl
theorem findFr_in (P : Nat → Bool) : ∀ (n i : Nat), -1 ≤ findFr P i n ∧ findFr P i n < ((i + n : Nat) : Int)
  | 0, i => by show -1 ≤ (-1 : Int) ∧ (-1 : Int) < _; omega
  | n + 1, i => by
    show -1 ≤ (if P i then (i : Int) else findFr P (i + 1) n) ∧ (if P i then (i : Int) else findFr P (i + 1) n) < _
    have := findFr_in P n (i + 1)
    split <;> omega

def isIt (y : List S120) (s : ByteArray) (i : Nat) : Bool := decide ((rd_T120 y (i : Int)).f0.toList = s.toList)
def find (y : List S120) (s : ByteArray) : Int := findFr (isIt y s) 0 y.length
theorem find_in (y : List S120) (s : ByteArray) : -1 ≤ find y s ∧ find y s < (y.length : Int) := by
  have := findFr_in (isIt y s) y.length 0
  unfold find
  omega

theorem specFind (y : List S120) (s : ByteArray) (h : y.length ≤ 1048577) : Ev (fun k => spec_l21Find.f k y s) (find y s) := by
  have key := ev_loop (fun i (_ : Unit) k => spec_l21Find.l0 k y s (i : Int)) y.length (fun i _ => findFr (isIt y s) i (y.length - i)) (fun _ _ => True)
    (fun _ _ => by
      refine Ev.succ ?_
      simp only [spec_l21Find.l0]
      rw [findFr_end]
      exact Ev.neg (by omega) (Ev.now _))
    (fun i _ hi _ ih => by
      refine Ev.succ ?_
      simp only [spec_l21Find.l0]
      rw [findFr_step _ hi, wrap_succ hi (by omega)]
      refine Ev.pos (by omega) (Ev.pos (by omega) ?_)
      refine Ev.ite (fun hc => (Ev.now _).to (by rw [show isIt y s i = true from decide_eq_true hc]; rfl)) (fun hc => (ih () trivial).to (by rw [show isIt y s i = false from decide_eq_false hc]; rfl)))
    0 () (Nat.zero_le _) trivial
  unfold spec_l21Find.f find
  simpa using key

theorem implFind (y : List S120) (a : Int) (s b : ByteArray) (h : y.length ≤ 1048577) : Ev (fun k => impl_item_at114.f k (y.map cv) a s b) (find y s) := by
  have key := ev_loop (fun i (_ : Unit) k => impl_item_at114.l0 k (y.map cv) ((y.map cv).length : Int) (i : Int) a s b) y.length (fun i _ => findFr (isIt y s) i (y.length - i)) (fun _ _ => True)
    (fun _ _ => by
      refine Ev.succ ?_
      simp only [impl_item_at114.l0]
      rw [findFr_end]
      exact Ev.neg (by simp) (Ev.now _))
    (fun i _ hi _ ih => by
      refine Ev.succ ?_
      simp only [impl_item_at114.l0, impl_replayed_1_c.f]
      rw [findFr_step _ hi, wrap_succ hi (by omega), rdC hi]
      refine Ev.pos (by simpa using hi) (Ev.pos (by omega) (Ev.pos (by simpa using hi) (Ev.bindC rfl ?_)))
      refine Ev.ite (fun hc => (Ev.now _).to (by rw [show isIt y s i = true from decide_eq_true (eq_of_beq hc)]; rfl)) (fun hc => (ih () trivial).to (by rw [show isIt y s i = false from decide_eq_false (fun hh => hc (beq_iff_eq.2 hh))]; rfl)))
    0 () (Nat.zero_le _) trivial
  unfold impl_item_at114.f find
  simpa using key

def tch (a : ByteArray) (i : Nat) : Bool := decide (32 ≤ bt a i ∧ bt a i ≤ 126)
def textOk (a : ByteArray) : Bool := decide (a.size ≤ 40) && allFr (tch a) 0 a.size

theorem specText (a : ByteArray) (h : a.size ≤ 9223372036854775807) : Ev (fun k => spec_l21Text.f k a) (textOk a) := by
  have jF : ∀ i : Int, Ev (fun k => spec_l21Text.j1 k a i false) (decide ((a.size : Int) ≤ 40)) := by
    intro i
    refine Ev.succ ?_
    simp only [spec_l21Text.j1]
    exact Ev.neg (by simp) (Ev.now _)
  unfold spec_l21Text.f
  by_cases h40 : a.size ≤ 40
  · have key := ev_loop (fun i (_ : Unit) k => spec_l21Text.l0 k a (i : Int)) a.size (fun i _ => allFr (tch a) i (a.size - i)) (fun _ _ => True)
      (fun _ _ => by
        refine Ev.succ ?_
        simp only [spec_l21Text.l0]
        rw [allFr_end]
        exact Ev.neg (by omega) ((jF _).to (decide_eq_true (by omega))))
      (fun i _ hi _ ih => by
        refine Ev.succ ?_
        simp only [spec_l21Text.l0]
        refine Ev.pos (by omega) (Ev.succ ?_)
        simp only [spec_l21Text.j1]
        rw [allFr_step _ hi, wrap_succ hi h]
        refine Ev.pos (by first | omega | exact decide_eq_true (by omega)) (Ev.pos (by omega) (Ev.pos (by omega) ?_))
        have F : ¬ (32 ≤ bt a i ∧ bt a i ≤ 126) → false = (tch a i && allFr (tch a) (i + 1) (a.size - (i + 1))) := fun hn => by
          rw [show tch a i = false from decide_eq_false hn]; rfl
        refine Ev.ite (fun h1 => (Ev.now _).to (F (by omega))) (fun h1 => Ev.ite (fun h2 => (Ev.now _).to (F (by omega))) (fun h2 => (ih () trivial).to ?_))
        rw [show tch a i = true from decide_eq_true ⟨by omega, by omega⟩]; rfl)
      0 () (Nat.zero_le _) trivial
    refine (by simpa using key : Ev (fun k => spec_l21Text.l0 k a 0) (allFr (tch a) 0 a.size)).to ?_
    unfold textOk
    rw [decide_eq_true h40, Bool.true_and]
  · have key := ev_loop (fun i (_ : Unit) k => spec_l21Text.l0 k a (i : Int)) 41 (fun _ _ => false) (fun _ _ => True)
      (fun _ _ => by
        refine Ev.succ ?_
        simp only [spec_l21Text.l0]
        exact Ev.ite (fun _ => (jF _).to (decide_eq_false (by omega))) (fun _ => (jF _).to (decide_eq_false (by omega))))
      (fun i _ hi _ ih => by
        refine Ev.succ ?_
        simp only [spec_l21Text.l0]
        refine Ev.pos (by omega) (Ev.succ ?_)
        simp only [spec_l21Text.j1]
        rw [wrap_succ (show i < a.size by omega) h]
        refine Ev.pos (by first | omega | exact decide_eq_true (by omega)) (Ev.pos (by omega) (Ev.pos (by omega) ?_))
        exact Ev.ite (fun h1 => Ev.now _) (fun h1 => Ev.ite (fun h2 => Ev.now _) (fun h2 => ih () trivial)))
      0 () (Nat.zero_le _) trivial
    refine (by simpa using key : Ev (fun k => spec_l21Text.l0 k a 0) false).to ?_
    unfold textOk
    rw [decide_eq_false h40]; rfl

theorem implText (a : ByteArray) (h : a.size ≤ 9223372036854775807) : Ev (fun k => impl_isText.f k a) (textOk a) := by
  have key := ev_loop (fun i (_ : Unit) k => impl_isText.l0 k a (a.size : Int) (i : Int)) a.size (fun i _ => decide (a.size ≤ 40) && allFr (tch a) i (a.size - i)) (fun _ _ => True)
    (fun _ _ => by
      refine Ev.succ ?_
      simp only [impl_isText.l0]
      rw [allFr_end, Bool.and_true]
      exact Ev.neg (by omega) ((Ev.now _).to (decide_eq_decide.2 (by omega))))
    (fun i _ hi _ ih => by
      refine Ev.succ ?_
      simp only [impl_isText.l0]
      rw [allFr_step _ hi, wrap_succ hi h]
      refine Ev.pos (by omega) (Ev.pos (by omega) (Ev.pos (by omega) ?_))
      have F : ¬ (32 ≤ bt a i ∧ bt a i ≤ 126) → false = (decide (a.size ≤ 40) && (tch a i && allFr (tch a) (i + 1) (a.size - (i + 1)))) := fun hn => by
        rw [show tch a i = false from decide_eq_false hn, Bool.false_and, Bool.and_false]
      refine Ev.ite (fun h1 => (Ev.now _).to (F (by omega))) (fun h1 => Ev.ite (fun h2 => (Ev.now _).to (F (by omega))) (fun h2 => (ih () trivial).to ?_))
      rw [show tch a i = true from decide_eq_true ⟨by omega, by omega⟩, Bool.true_and])
    0 () (Nat.zero_le _) trivial
  unfold impl_isText.f textOk
  simpa using key

def stepE (y : List S120) (e : S70) : Option (List S120) :=
  if nameOk e.f1 = true ∧ textOk e.f2 = true then
    if e.f0 = 1 then (if find y e.f1 < 0 then some (y ++ [⟨e.f1, e.f2, false⟩]) else none)
    else if find y e.f1 < 0 then none
    else if e.f0 = 2 then (if (rd_T120 y (find y e.f1)).f2 = true then none else some (y.set (find y e.f1).toNat ⟨(rd_T120 y (find y e.f1)).f0, e.f2, (rd_T120 y (find y e.f1)).f2⟩))
    else if e.f0 = 3 ∨ e.f0 = 4 then
      (if e.f2.toList = [] then (if ((rd_T120 y (find y e.f1)).f2 = true ↔ e.f0 = 4) then some (y.set (find y e.f1).toNat ⟨(rd_T120 y (find y e.f1)).f0, (rd_T120 y (find y e.f1)).f1, e.f0 == 3⟩) else none) else none)
    else none
  else none
def play : List S70 → List S120 → List S120 × Bool
  | [], y => (y, true)
  | e :: es, y => match stepE y e with
    | none => (y, false)
    | some y' => play es y'
theorem play_at (l : List S70) (i : Nat) (hi : i < l.length) (y : List S120) : play (l.drop i) y = match stepE y l[i] with | none => (y, false) | some y' => play (l.drop (i + 1)) y' := by
  rw [List.drop_eq_getElem_cons hi]
  rfl
theorem stepE_length {y y' : List S120} {e : S70} (h : stepE y e = some y') : y'.length ≤ y.length + 1 := by
  unfold stepE at h
  repeat' split at h
  all_goals first
    | (injection h with h; subst h; simp)
    | (cases h)

theorem specPlay (l : List S70) (ho : okE l) : Ev (fun k => spec_l21Play.f k l) (play l []) := by
  obtain ⟨hl, hw⟩ := ho
  have j2T : ∀ a b c d f g h, Ev (fun k => spec_l21Play.j2 k a b c d true f g h) (b, false) := by
    intro a b c d f g h
    refine Ev.succ ?_
    simp only [spec_l21Play.j2]
    exact Ev.pos trivial (Ev.now _)
  have j1T : ∀ a b c d f g h, Ev (fun k => spec_l21Play.j1 k a b c d true f g h) (b, false) := by
    intro a b c d f g h
    refine Ev.succ ?_
    simp only [spec_l21Play.j1]
    exact Ev.pos trivial (Ev.now _)
  have key := ev_loop (fun i (y : List S120) k => spec_l21Play.l0 k l y (i : Int)) l.length (fun i y => play (l.drop i) y) (fun i y => y.length ≤ i)
    (fun y _ => by
      refine Ev.succ ?_
      simp only [spec_l21Play.l0]
      rw [List.drop_length]
      exact Ev.neg (by omega) (Ev.now _))
    (fun i y hi hy ih => by
      obtain ⟨hx1, hx2⟩ := hw _ (List.getElem_mem hi)
      refine Ev.succ ?_
      simp only [spec_l21Play.l0]
      rw [play_at l i hi, rdB hi]
      have ihs : ∀ y', stepE y l[i] = some y' → Ev (fun k => spec_l21Play.l0 k l y' (wrap64 ((i : Int) + 1))) (match stepE y l[i] with | none => (y, false) | some y' => play (l.drop (i + 1)) y') := fun y' h => by
        have := stepE_length h
        rw [h, wrap_succ hi (by omega)]
        exact ih y' (by omega)
      have F : stepE y l[i] = none → (y, false) = (match stepE y l[i] with | none => (y, false) | some y' => play (l.drop (i + 1)) y') := fun h => by rw [h]
      generalize l[i] = e at hx1 hx2 ihs F ⊢
      generalize hP : (match stepE y e with | none => (y, false) | some y' => play (l.drop (i + 1)) y') = P at ihs F ⊢
      have hfi := find_in y e.f1
      refine Ev.pos (by omega) (Ev.pos (by omega) (Ev.bind (specFind y e.f1 (by omega)) (Ev.bind (specName _ hx1) ?_)))
      generalize hf : find y e.f1 = t at hfi ⊢
      refine Ev.ite (fun hn => Ev.bind (specText _ hx2) (Ev.ite (fun ht => ?_) (fun ht => (j1T _ _ _ _ _ _ _).to (F (if_neg (fun hh => ht hh.2)))))) (fun hn => (j1T _ _ _ _ _ _ _).to (F (if_neg (fun hh => hn hh.1))))
      have hs : stepE y e = _ := if_pos ⟨hn, ht⟩
      rw [hf] at hs
      have go : Ev (fun k => spec_l21Play.j1 k l y (i : Int) t false e.f0 e.f1 e.f2) P ∨ (e.f0 ≥ 3 ∧ e.f2.toList ≠ []) := by
        by_cases hk : e.f0 ≥ 3 ∧ e.f2.toList ≠ []
        · exact Or.inr hk
        · refine Or.inl (Ev.succ ?_)
          simp only [spec_l21Play.j1]
          refine Ev.neg (by simp) ?_
          refine Ev.ite (fun h1 => ?_) (fun h1 => ?_)
          · rw [if_pos h1] at hs
            refine Ev.ite (fun h2 => (Ev.now _).to (F (by rw [hs, if_neg (by omega)]))) (fun h2 => Ev.pos (by omega) (ihs _ (by rw [hs, if_pos (by omega)])))
          · rw [if_neg h1] at hs
            refine Ev.ite (fun h2 => (j2T _ _ _ _ _ _ _).to (F (by rw [hs, if_pos h2]))) (fun h2 => ?_)
            rw [if_neg h2] at hs
            refine Ev.bindC (l1In _ _ _) (Ev.ite (fun h3 => ?_) (fun h3 => (j2T _ _ _ _ _ _ _).to (F ?_)))
            · have h3 := of_decide_eq_true h3
              have j2F : (∀ b : Bool, b = (e.f0 == 3) → True) → stepE y e = some (if e.f0 = 2 then y.set t.toNat ⟨(rd_T120 y t).f0, e.f2, (rd_T120 y t).f2⟩ else y.set t.toNat ⟨(rd_T120 y t).f0, (rd_T120 y t).f1, e.f0 == 3⟩) → Ev (fun k => spec_l21Play.j2 k l y (i : Int) t false e.f0 e.f1 e.f2) P := by
                intro _ hss
                refine Ev.succ ?_
                simp only [spec_l21Play.j2]
                refine Ev.neg (by simp) (Ev.pos (by omega) (Ev.pos (by omega) ?_))
                refine Ev.ite (fun h4 => ihs _ (by rw [hss, if_pos h4])) (fun h4 => ihs _ (by rw [hss, if_neg h4]))
              refine Ev.pos (by omega) (Ev.pos (by omega) ?_)
              refine Ev.ite (fun hv => Ev.ite (fun h4 => j2F (fun _ _ => trivial) ?_) (fun h4 => (j2T _ _ _ _ _ _ _).to (F ?_))) (fun hv => Ev.ite (fun h4 => (j2T _ _ _ _ _ _ _).to (F ?_)) (fun h4 => j2F (fun _ _ => trivial) ?_))
              · have h20 : ¬ e.f0 = 2 := by omega
                have hte : e.f2.toList = [] := Decidable.byContradiction (fun hc => hk ⟨by omega, hc⟩)
                rw [hs, if_neg h20, if_pos (Or.inr h4), if_pos hte, if_pos ⟨fun _ => h4, fun _ => hv⟩, if_neg h20]
              · by_cases h20 : e.f0 = 2
                · rw [hs, if_pos h20, if_pos hv]
                · have h30 : e.f0 = 3 := by omega
                  have hte : e.f2.toList = [] := Decidable.byContradiction (fun hc => hk ⟨by omega, hc⟩)
                  rw [hs, if_neg h20, if_pos (Or.inl h30), if_pos hte, if_neg (fun hh => h4 (hh.1 hv))]
              · have h20 : ¬ e.f0 = 2 := by omega
                have hte : e.f2.toList = [] := Decidable.byContradiction (fun hc => hk ⟨by omega, hc⟩)
                rw [hs, if_neg h20, if_pos (Or.inr h4), if_pos hte, if_neg (fun hh => hv (hh.2 h4))]
              · by_cases h20 : e.f0 = 2
                · rw [hs, if_pos h20, if_neg hv, if_pos h20]
                · have h30 : e.f0 = 3 := by omega
                  have hte : e.f2.toList = [] := Decidable.byContradiction (fun hc => hk ⟨by omega, hc⟩)
                  rw [hs, if_neg h20, if_pos (Or.inl h30), if_pos hte, if_pos ⟨fun hh => absurd hh hv, fun hh => absurd hh h4⟩, if_neg h20]
            · have h3' : ¬ (2 ≤ e.f0 ∧ e.f0 ≤ 4) := fun hh => h3 (decide_eq_true hh)
              rw [hs, if_neg (by omega), if_neg (by omega)]
      refine Ev.ite (fun hk => ?_) (fun hk => ?_)
      · by_cases hte : e.f2.toList = []
        · rw [show (e.f2.toList != ([] : List UInt8)) = false by rw [hte]; rfl]
          exact go.resolve_right (fun hh => hh.2 hte)
        · rw [show (e.f2.toList != ([] : List UInt8)) = true from bne_iff_ne.2 hte]
          refine (j1T _ _ _ _ _ _ _).to (F ?_)
          rw [hs, if_neg (by omega), if_neg (show ¬ e.f0 = 2 by omega)]
          by_cases h5 : t < 0
          · rw [if_pos h5]
          · rw [if_neg h5]
            by_cases h6 : e.f0 = 3 ∨ e.f0 = 4
            · rw [if_pos h6, if_neg hte]
            · rw [if_neg h6]
      · exact go.resolve_right (fun hh => hk hh.1))
    0 [] (Nat.zero_le _) (Nat.le_refl _)
  unfold spec_l21Play.f
  simpa using key
end Go.Proofs.Ytodombkmnnggeaa.Pp
