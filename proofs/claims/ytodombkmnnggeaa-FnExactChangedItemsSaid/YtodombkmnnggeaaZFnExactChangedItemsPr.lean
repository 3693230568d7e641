import Derived.Test.YtodombkmnnggeaaZFnExactChangedItemsQx0
import Derived.Test.YtodombkmnnggeaaZFnExactChangedItemsB1
import Derived.Test.YtodombkmnnggeaaZFnExactChangedItemsB2
import Derived.Test.YtodombkmnnggeaaZFnExactChangedItemsB3
import Derived.Test.YtodombkmnnggeaaZFnExactChangedItemsPt
import Derived.Test.YtodombkmnnggeaaZFnExactChangedItemsPname
import Derived.Test.YtodombkmnnggeaaZFnExactChangedItemsQo
namespace Go.Proofs.Ytodombkmnnggeaa.Pr
open Go.RowKit Go.Proofs.Ytodombkmnnggeaa.Q Go.Proofs.YtodombkmnnggeaaW.PrintWords Go.Proofs.Ytodombkmnnggeaa.Pl Go.Proofs.Ytodombkmnnggeaa.Pt

def toE (x : S67) : S70 := ⟨x.f0, x.f1, x.f2⟩
theorem rdA {l : List S67} {i : Nat} (h : i < l.length) : rd_T67 l (i : Int) = l[i] := getD_at h
theorem rdB {l : List S70} {i : Nat} (h : i < l.length) : rd_T70 l (i : Int) = l[i] := getD_at h

theorem szEntry (x : S67) (a : Int) (h : wf67 x) (h0 : 0 ≤ a) (h1 : a ≤ 1048576) : ∃ t, laws_szEntry.f x.f0 x.f1 x.f2 a = some t ∧ t ≤ 1048576 := by
  obtain ⟨_, s1, s2⟩ := h
  unfold maxLen at s1 s2
  unfold laws_szEntry.f
  rw [wrap_id (x := a - _) (by omega) (by omega)]
  by_cases c1 : a - (x.f1.size : Int) < 0
  · exact ⟨_, if_pos c1, by omega⟩
  · rw [if_neg c1, wrap_id (x := a - _ - _) (by omega) (by omega)]
    by_cases c2 : a - (x.f1.size : Int) - (x.f2.size : Int) < 0
    · exact ⟨_, if_pos c2, by omega⟩
    · exact ⟨_, if_neg c2, by omega⟩

theorem szEntryS (l : List S67) (h : l.length ≤ maxLen ∧ ∀ x ∈ l, wf67 x) : ∃ t, Ev (fun k => laws_szEntryS.f k l 1048576) t ∧ t ≤ 1048576 ∧ (0 ≤ t → l.length ≤ 1048576) := by
  obtain ⟨hl, hw⟩ := h
  unfold maxLen at hl
  unfold laws_szEntryS.f
  have e : wrap64 (1048576 - (l.length : Int)) = 1048576 - l.length := by unfold wrap64; omega
  rw [e]
  by_cases hn : 1048576 - (l.length : Int) < 0
  · exact ⟨-1, Ev.pos hn (Ev.now _), by omega, by omega⟩
  · have key : ∀ (d i : Nat) (a : Int), l.length - i = d → i ≤ l.length → 0 ≤ a → a ≤ 1048576 → Has (fun t => t ≤ 1048576) (fun k => laws_szEntryS.l0 k l a (i : Int)) := by
      intro d
      induction d with
      | zero =>
        intro i a hd hi h0 h1
        refine Has.succ ?_
        simp only [laws_szEntryS.l0]
        exact Has.neg (by omega) (Has.some h1)
      | succ d ih =>
        intro i a hd hi h0 h1
        have hi' : i < l.length := by omega
        obtain ⟨t, ht, ht1⟩ := szEntry l[i] a (hw l[i] (List.getElem_mem hi')) h0 h1
        refine Has.succ ?_
        simp only [laws_szEntryS.l0]
        rw [rdA hi', wrap_succ hi' (by omega), ht]
        refine Has.pos (by omega) (Has.pos (by omega) (Has.opaque (fun v => v = t) rfl (fun v hv => ?_)))
        refine Has.ite (fun _ => Has.some (by omega)) (fun _ => ih (i + 1) v (by omega) (by omega) (by omega) (by omega))
    obtain ⟨t, h1, ht⟩ := key _ 0 (1048576 - (l.length : Int)) rfl (Nat.zero_le _) (by omega) (by omega)
    exact ⟨t, Ev.neg hn ht, h1, fun _ => by omega⟩

theorem toEntryS (l : List S67) (h : l.length ≤ 1048576) : Ev (fun k => laws_toEntryS.f k l) (l.map toE) := by
  have key := ev_loop (fun i (acc : List S70) k => laws_toEntryS.l0 k l acc (i : Int)) l.length (fun i acc => acc.take i ++ (l.map toE).drop i) (fun _ acc => acc.length = l.length)
    (fun acc ha => by
      refine Ev.succ ?_
      simp only [laws_toEntryS.l0]
      refine Ev.neg (by omega) ((Ev.now _).to ?_)
      rw [← ha, List.take_length, ha, List.drop_of_length_le (by simp), List.append_nil])
    (fun i acc hi ha ih => by
      refine Ev.succ ?_
      simp only [laws_toEntryS.l0, laws_toEntry.f]
      rw [wrap_succ hi (by omega), rdA hi]
      refine Ev.pos (by omega) (Ev.pos (by omega) (Ev.bindC rfl (Ev.pos (by omega) ?_)))
      refine (ih _ (by rw [List.length_set]; exact ha)).to ?_
      have hm : i < (l.map toE).length := by simpa using hi
      have := take_set_drop acc (l.map toE) i hm (by simpa using ha)
      rw [List.getElem_map] at this
      exact this)
    0 (List.replicate l.length z70) (Nat.zero_le _) (by simp)
  unfold laws_toEntryS.f
  refine Ev.pos (by omega) (Ev.pos (by omega) ?_)
  simpa using key

theorem eqEntryS (l : List S70) (h : l.length ≤ 1048577) : Ev (fun k => laws_eqEntryS.f k l l) true := by
  have key := ev_loop (fun i (_ : Unit) k => laws_eqEntryS.l0 k l l (i : Int)) l.length (fun _ _ => true) (fun _ _ => True)
    (fun _ _ => by
      refine Ev.succ ?_
      simp only [laws_eqEntryS.l0]
      exact Ev.neg (by omega) (Ev.now _))
    (fun i _ hi _ ih => by
      refine Ev.succ ?_
      simp only [laws_eqEntryS.l0, laws_eqEntry.f]
      rw [wrap_succ hi (by omega)]
      refine Ev.pos (by omega) (Ev.pos (by omega) (Ev.pos (by omega) (Ev.bindC (a := true) (by simp) (Ev.pos rfl ?_))))
      exact ih () trivial)
    0 () (Nat.zero_le _) trivial
  unfold laws_eqEntryS.f
  exact Ev.pos rfl (by simpa using key)

noncomputable def emarks (a : Int) (n : Nat) : List S70 := (List.range n).map fun i => ⟨a + 3 * (i : Nat), mt (a + 3 * (i : Nat) + 1), mt (a + 3 * (i : Nat) + 2)⟩
theorem emarks_length (a : Int) (n : Nat) : (emarks a n).length = n := by simp [emarks]
theorem emarks_get (a : Int) (n i : Nat) (h : i < (emarks a n).length) : (emarks a n)[i] = ⟨a + 3 * (i : Nat), mt (a + 3 * (i : Nat) + 1), mt (a + 3 * (i : Nat) + 2)⟩ := by simp [emarks]

theorem markEntryS (l : List S70) (a : Int) (h : l.length ≤ 1048577) (ha : 0 ≤ a) (ha' : a ≤ 1048576) : Ev (fun k => laws_markEntryS.f k l a) (a + 3 * (l.length : Int), emarks a l.length) := by
  have key := ev_loop (fun i (acc : List S70) k => laws_markEntryS.l0 k acc (a + 3 * (i : Nat)) (i : Int)) l.length (fun i acc => (a + 3 * (l.length : Int), acc.take i ++ (emarks a l.length).drop i)) (fun _ acc => acc.length = l.length)
    (fun acc hl => by
      refine Ev.succ ?_
      simp only [laws_markEntryS.l0]
      refine Ev.neg (by omega) ((Ev.now _).to ?_)
      rw [← hl, List.take_length, hl, List.drop_of_length_le (by rw [emarks_length]; exact Nat.le_refl _), List.append_nil])
    (fun i acc hi hl ih => by
      refine Ev.succ ?_
      simp only [laws_markEntryS.l0]
      have w1 : wrap64 (a + 3 * (i : Nat) + 1) = a + 3 * (i : Nat) + 1 := wrap_id (by omega) (by omega)
      have w2 : wrap64 (a + 3 * (i : Nat) + 1 + 1) = a + 3 * (i : Nat) + 2 := by unfold wrap64; omega
      have w3 : wrap64 (a + 3 * (i : Nat) + 2 + 1) = a + 3 * ((i + 1 : Nat) : Int) := by unfold wrap64; omega
      rw [w1, w2, w3, wrap_succ hi (by omega)]
      refine Ev.pos (by omega) (Ev.pos (by omega) (Ev.bindC rfl (Ev.bind (markText _ (by omega)) (Ev.bindC rfl (Ev.bind (markText _ (by omega)) ?_)))))
      have hia : i < acc.length := by omega
      have r1 : ∀ e : S70, rd_T70 (acc.set i e) (i : Int) = e := fun e => by rw [rdB (by simpa using hia)]; simp
      simp only [Int.toNat_natCast, List.set_set, r1]
      refine (ih _ (by rw [List.length_set]; exact hl)).to ?_
      have hm : i < (emarks a l.length).length := by rw [emarks_length]; exact hi
      have := take_set_drop acc (emarks a l.length) i hm (by rw [emarks_length]; exact hl)
      rw [emarks_get a l.length i hm] at this
      rw [this])
    0 l (Nat.zero_le _) rfl
  unfold laws_markEntryS.f
  simpa using key

def okE (l : List S70) : Prop := l.length ≤ 1048577 ∧ ∀ x ∈ l, x.f1.size ≤ 9223372036854775807 ∧ x.f2.size ≤ 9223372036854775807
theorem okE_of {l : List S67} (h : ∀ x ∈ l, wf67 x) (hl : l.length ≤ 1048576) : okE (l.map toE) := by
  refine ⟨by simp; omega, fun x hx => ?_⟩
  obtain ⟨y, hy, rfl⟩ := List.mem_map.1 hx
  obtain ⟨_, h1, h2⟩ := h y hy
  unfold maxLen at h1 h2
  exact ⟨by show y.f1.size ≤ _; omega, by show y.f2.size ≤ _; omega⟩
end Go.Proofs.Ytodombkmnnggeaa.Pr
