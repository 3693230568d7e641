import Derived.Test.YtlphkfkcfomlbaaZFnExactApplyStepQx0
import Derived.Test.YtlphkfkcfomlbaaZFnExactApplyStepB1
import Derived.Test.YtlphkfkcfomlbaaZFnExactApplyStepB2
import Derived.Test.YtlphkfkcfomlbaaZFnExactApplyStepB3
import Derived.Test.YtlphkfkcfomlbaaZFnExactApplyStepB4
import Derived.Test.YtlphkfkcfomlbaaZFnExactApplyStepB5
import Derived.Test.YtlphkfkcfomlbaaZFnExactApplyStepPname
import Derived.Test.YtlphkfkcfomlbaaZFnExactApplyStepQo
namespace Go.Proofs.Ytlphkfkcfomlbaa.Pm
open Go.RowKit Go.Proofs.Ytlphkfkcfomlbaa.Q Go.Proofs.YtlphkfkcfomlbaaW.PrintWords Go.Proofs.Ytlphkfkcfomlbaa.Pl Go.Proofs.Ytlphkfkcfomlbaa.Pname

def toS (x : S95) : S71 := ⟨x.f0, x.f1, x.f2, x.f3, x.f4, x.f5, x.f6, x.f7⟩
theorem rdA {l : List S95} {i : Nat} (h : i < l.length) : rd_T95 l (i : Int) = l[i] := getD_at h
theorem rdB {l : List S71} {i : Nat} (h : i < l.length) : rd_T71 l (i : Int) = l[i] := getD_at h

theorem szSampleS (l : List S95) (h : l.length ≤ maxLen ∧ ∀ x ∈ l, wf95 x) : ∃ t, Ev (fun k => laws_szSampleS.f k l 1048576) t ∧ (0 ≤ t → l.length ≤ 1048576) := by
  obtain ⟨hl, hw⟩ := h
  unfold maxLen at hl
  unfold laws_szSampleS.f
  have e : wrap64 (1048576 - (l.length : Int)) = 1048576 - l.length := by unfold wrap64; omega
  rw [e]
  by_cases hn : 1048576 - (l.length : Int) < 0
  · exact ⟨-1, Ev.pos hn (Ev.now _), by omega⟩
  · have key : ∀ (d i : Nat) (a : Int), l.length - i = d → i ≤ l.length → 0 ≤ a → a ≤ 1048576 → Has (fun _ => True) (fun k => laws_szSampleS.l0 k l a (i : Int)) := by
      intro d
      induction d with
      | zero =>
        intro i a hd hi h0 h1
        refine Has.succ ?_
        simp only [laws_szSampleS.l0]
        exact Has.neg (by omega) (Has.some trivial)
      | succ d ih =>
        intro i a hd hi h0 h1
        have hi' : i < l.length := by omega
        have hx := (hw l[i] (List.getElem_mem hi')).2.2.2.2.2.2.2
        unfold maxLen at hx
        refine Has.succ ?_
        simp only [laws_szSampleS.l0, laws_szSample.f]
        rw [rdA hi', wrap_succ hi' (by omega), wrap_id (x := a - _) (by omega) (by omega)]
        refine Has.pos (by omega) (Has.pos (by omega) ?_)
        by_cases hb : a - ((l[i]).f7.size : Int) < 0
        · rw [if_pos hb]
          exact Has.opaque (fun v => v = -1) rfl (fun v hv => Has.pos (by omega) (Has.some trivial))
        · rw [if_neg hb]
          exact Has.opaque (fun v => v = a - ((l[i]).f7.size : Int)) rfl (fun v hv => Has.neg (by omega) (ih (i + 1) _ (by omega) (by omega) (by omega) (by omega)))
    obtain ⟨t, _, ht⟩ := key _ 0 (1048576 - (l.length : Int)) rfl (Nat.zero_le _) (by omega) (by omega)
    exact ⟨t, Ev.neg hn ht, fun _ => by omega⟩

theorem toSampleS (l : List S95) (h : l.length ≤ 1048576) : Ev (fun k => laws_toSampleS.f k l) (l.map toS) := by
  have key := ev_loop (fun i (acc : List S71) k => laws_toSampleS.l0 k l acc (i : Int)) l.length (fun i acc => acc.take i ++ (l.map toS).drop i) (fun _ acc => acc.length = l.length)
    (fun acc ha => by
      refine Ev.succ ?_
      simp only [laws_toSampleS.l0]
      refine Ev.neg (by omega) ((Ev.now _).to ?_)
      rw [← ha, List.take_length, ha, List.drop_of_length_le (by simp), List.append_nil])
    (fun i acc hi ha ih => by
      refine Ev.succ ?_
      simp only [laws_toSampleS.l0, laws_toSample.f]
      rw [wrap_succ hi (by omega), rdA hi]
      refine Ev.pos (by omega) (Ev.pos (by omega) (Ev.bindC rfl (Ev.pos (by omega) ?_)))
      refine (ih _ (by rw [List.length_set]; exact ha)).to ?_
      have hm : i < (l.map toS).length := by simpa using hi
      have := take_set_drop acc (l.map toS) i hm (by simpa using ha)
      rw [List.getElem_map] at this
      exact this)
    0 (List.replicate l.length z71) (Nat.zero_le _) (by simp)
  unfold laws_toSampleS.f
  refine Ev.pos (by omega) (Ev.pos (by omega) ?_)
  simpa using key

theorem eqSampleS (l : List S71) (h : l.length ≤ 1048576) : Ev (fun k => laws_eqSampleS.f k l l) true := by
  have key := ev_loop (fun i (_ : Unit) k => laws_eqSampleS.l0 k l l (i : Int)) l.length (fun _ _ => true) (fun _ _ => True)
    (fun _ _ => by
      refine Ev.succ ?_
      simp only [laws_eqSampleS.l0]
      exact Ev.neg (by omega) (Ev.now _))
    (fun i _ hi _ ih => by
      refine Ev.succ ?_
      simp only [laws_eqSampleS.l0, laws_eqSample.f]
      rw [wrap_succ hi (by omega)]
      refine Ev.pos (by omega) (Ev.pos (by omega) (Ev.pos (by omega) (Ev.bindC (a := true) (by simp) (Ev.pos rfl ?_))))
      exact ih () trivial)
    0 () (Nat.zero_le _) trivial
  unfold laws_eqSampleS.f
  exact Ev.pos rfl (by simpa using key)

def gsum (l : List S71) (j : Int) : Int := l.foldl (fun a x => if x.f1 = j then wrap64 (a + x.f3) else a) 0
theorem gsum_take (l : List S71) (j : Int) (i : Nat) (hi : i < l.length) : gsum (l.take (i + 1)) j = if (l[i]).f1 = j then wrap64 (gsum (l.take i) j + (l[i]).f3) else gsum (l.take i) j := by
  unfold gsum
  rw [List.take_succ_eq_append_getElem hi, List.foldl_append]
  rfl

theorem given (l : List S71) (j : Int) (h : l.length ≤ 1048576) : Ev (fun k => spec_l20Given.f k l j) (gsum l j) := by
  have key := ev_loop (fun i (a : Int) k => spec_l20Given.l0 k l j a (i : Int)) l.length (fun _ _ => gsum l j) (fun i a => a = gsum (l.take i) j)
    (fun a ha => by
      refine Ev.succ ?_
      simp only [spec_l20Given.l0]
      rw [ha, List.take_length]
      exact Ev.neg (by omega) (Ev.now _))
    (fun i a hi ha ih => by
      refine Ev.succ ?_
      simp only [spec_l20Given.l0]
      rw [wrap_succ hi (by omega), rdB hi]
      refine Ev.pos (by omega) (Ev.pos (by omega) ?_)
      refine Ev.ite (fun hc => ih _ ?_) (fun hc => ih _ ?_)
      · rw [gsum_take l j i hi, if_pos hc, ha]
      · rw [gsum_take l j i hi, if_neg hc, ha])
    0 0 (Nat.zero_le _) rfl
  exact key

def HeadP (i : Nat) (x : S71) : Prop := x.f0 = (i : Int) + 1 ∧ (0 ≤ x.f1 ∧ x.f1 ≤ i) ∧ (1 ≤ x.f2 ∧ x.f2 ≤ 999) ∧ (1 ≤ x.f3 ∧ x.f3 ≤ 500) ∧ 0 ≤ x.f4 ∧ 0 ≤ x.f5 ∧ 0 ≤ x.f6 ∧ nameOk x.f7 = true
instance (i : Nat) (x : S71) : Decidable (HeadP i x) := by unfold HeadP; infer_instance
def ParP (l : List S71) (x : S71) : Prop := x.f1 = 0 ∨ (rd_T71 l (x.f1 - 1)).f2 = x.f2
instance (l : List S71) (x : S71) : Decidable (ParP l x) := by unfold ParP; infer_instance
def TailP (l : List S71) (x : S71) : Prop := x.f4 ≤ x.f3 ∧ x.f5 ≤ x.f3 ∧ wrap64 (wrap64 (x.f4 + x.f5) + x.f6) = x.f3 ∧ ParP l x
instance (l : List S71) (x : S71) : Decidable (TailP l x) := by unfold TailP; infer_instance
def at' (l : List S71) (i : Nat) : S71 := l.getD i z71
theorem at'_eq {l : List S71} {i : Nat} (h : i < l.length) : at' l i = l[i] := by unfold at'; rw [List.getD_eq_getElem?_getD, List.getElem?_eq_getElem h]; rfl
def locB (l : List S71) (i : Nat) : Bool := decide (HeadP i (at' l i)) && decide (TailP l (at' l i))
def givB (l : List S71) (i : Nat) : Bool := decide ((at' l i).f6 = gsum l ((i : Int) + 1))

theorem specSample (l : List S71) (h : l.length ≤ 1048576) (hw : ∀ x ∈ l, x.f7.size ≤ 9223372036854775807) (i : Nat) (hi : i < l.length) : Ev (fun k => spec_l20Sample.f k l (i : Int)) (locB l i && givB l i) := by
  have jT : ∀ a b c d e f g s, Ev (fun k => spec_l20Sample.j0 k l true a b c d e f g s) false := by
    intro a b c d e f g s
    refine Ev.succ ?_
    simp only [spec_l20Sample.j0]
    exact Ev.pos trivial (Ev.now _)
  unfold spec_l20Sample.f
  rw [rdB hi]
  unfold locB givB
  rw [at'_eq hi]
  have hx := hw _ (List.getElem_mem hi)
  generalize l[i] = x at hx ⊢
  have F : ¬ HeadP i x → false = (decide (HeadP i x) && decide (TailP l x) && decide (x.f6 = gsum l ((i : Int) + 1))) := fun hn => by
    rw [decide_eq_false hn]; rfl
  have e1 : wrap64 ((i : Int) + 1) = (i : Int) + 1 := wrap_id (by omega) (by omega)
  rw [e1]
  refine Ev.pos (by omega) (Ev.pos (by omega) ?_)
  refine Ev.ite (fun h0 => ?_) (fun h0 => (jT _ _ _ _ _ _ _ _).to (F (fun hh => h0 hh.1)))
  refine Ev.bindC (l1In _ _ _) (Ev.ite (fun h1 => ?_) (fun h1 => (jT _ _ _ _ _ _ _ _).to (F (fun hh => h1 (decide_eq_true hh.2.1)))))
  refine Ev.bindC (l1In _ _ _) (Ev.ite (fun h2 => ?_) (fun h2 => (jT _ _ _ _ _ _ _ _).to (F (fun hh => h2 (decide_eq_true hh.2.2.1)))))
  refine Ev.bindC (l1In _ _ _) (Ev.ite (fun h3 => ?_) (fun h3 => (jT _ _ _ _ _ _ _ _).to (F (fun hh => h3 (decide_eq_true hh.2.2.2.1)))))
  have h1 := of_decide_eq_true h1
  have h2 := of_decide_eq_true h2
  have h3 := of_decide_eq_true h3
  refine Ev.ite (fun h4 => (jT _ _ _ _ _ _ _ _).to (F (fun hh => by have := hh.2.2.2.2.1; omega))) (fun h4 => ?_)
  refine Ev.ite (fun h5 => (jT _ _ _ _ _ _ _ _).to (F (fun hh => by have := hh.2.2.2.2.2.1; omega))) (fun h5 => ?_)
  refine Ev.ite (fun h6 => (jT _ _ _ _ _ _ _ _).to (F (fun hh => by have := hh.2.2.2.2.2.2.1; omega))) (fun h6 => ?_)
  refine Ev.bind (specName _ hx) ?_
  cases hn : nameOk x.f7 with
  | false => exact (jT _ _ _ _ _ _ _ _).to (F (fun hh => by have := hh.2.2.2.2.2.2.2; rw [hn] at this; cases this))
  | true =>
    have hH : HeadP i x := ⟨h0, h1, h2, h3, by omega, by omega, by omega, hn⟩
    rw [decide_eq_true hH, Bool.true_and]
    have F2 : ¬ TailP l x → false = (decide (TailP l x) && decide (x.f6 = gsum l ((i : Int) + 1))) := fun hn => by
      rw [decide_eq_false hn]; rfl
    refine Ev.succ ?_
    simp only [spec_l20Sample.j0]
    refine Ev.neg (by simp) ?_
    refine Ev.ite (fun h7 => (Ev.now _).to (F2 (fun hh => by have := hh.1; omega))) (fun h7 => ?_)
    refine Ev.ite (fun h8 => (Ev.now _).to (F2 (fun hh => by have := hh.2.1; omega))) (fun h8 => ?_)
    refine Ev.ite (fun h9 => ?_) (fun h9 => (Ev.now _).to (F2 (fun hh => h9 hh.2.2.1)))
    refine Ev.ite (fun h10 => ?_) (fun h10 => ?_)
    · refine Ev.bind (given l _ h) ((Ev.now _).to ?_)
      rw [decide_eq_true (show TailP l x from ⟨by omega, by omega, h9, Or.inl h10⟩), h0]
      rfl
    · have e2 : wrap64 (x.f1 - 1) = x.f1 - 1 := wrap_id (by omega) (by omega)
      rw [e2]
      refine Ev.pos (by omega) (Ev.pos (by omega) ?_)
      refine Ev.ite (fun h11 => ?_) (fun h11 => (Ev.now _).to (F2 (fun hh => hh.2.2.2.elim h10 h11)))
      refine Ev.bind (given l _ h) ((Ev.now _).to ?_)
      rw [decide_eq_true (show TailP l x from ⟨by omega, by omega, h9, Or.inr h11⟩), h0]
      rfl

def validB (l : List S71) : Bool := decide (l.length ≤ 16) && (allFr (locB l) 0 l.length && allFr (givB l) 0 l.length)

theorem specGood (l : List S71) (h : l.length ≤ 1048576) (hw : ∀ x ∈ l, x.f7.size ≤ 9223372036854775807) : Ev (fun k => spec_l20Good.f k l) (validB l) := by
  unfold spec_l20Good.f validB
  refine Ev.ite (fun h1 => (Ev.now _).to (by rw [decide_eq_false (show ¬ l.length ≤ 16 by omega)]; rfl)) (fun h1 => ?_)
  rw [decide_eq_true (show l.length ≤ 16 by omega), Bool.true_and, ← allFr_and]
  have key := ev_loop (fun i (_ : Unit) k => spec_l20Good.l0 k l (i : Int)) l.length (fun i _ => allFr (fun j => locB l j && givB l j) i (l.length - i)) (fun _ _ => True)
    (fun _ _ => by
      refine Ev.succ ?_
      simp only [spec_l20Good.l0]
      rw [allFr_end]
      exact Ev.neg (by omega) (Ev.now _))
    (fun i _ hi _ ih => by
      refine Ev.succ ?_
      simp only [spec_l20Good.l0]
      rw [wrap_succ hi (by omega), allFr_step _ hi]
      refine Ev.pos (by omega) (Ev.bind (specSample l h hw i hi) ?_)
      refine Ev.ite (fun h2 => (ih () trivial).to (by rw [h2]; rfl)) (fun h2 => (Ev.now _).to (by simp only [Bool.not_eq_true] at h2; rw [h2]; rfl)))
    0 () (Nat.zero_le _) trivial
  simpa using key
end Go.Proofs.Ytlphkfkcfomlbaa.Pm
