-- Written by this session's texts and program for this claim. Lean checks it.
import Derived.Laws.AppendOwn
import Derived.Test.YtbofobjofngoeaaVFnHistories1
set_option autoImplicit true
set_option relaxedAutoImplicit true
set_option linter.unusedSimpArgs false
set_option linter.unusedVariables false
namespace Go.Eng
open Go.RowKit
variable {P : Program} {T : Nat → Option TI}

theorem RR_lend {w : World} {Z : Nat → Prop} {r : Root} {v : Value} {S : Nat → Prop} {p : List Nat} {n : PV} (h : RR w Z r v S) (ho : r.node.own p = true) (hg : r.node.get p = some n) (ha : n.isAg = false) :
    ∃ u S1 S2, Sep S S1 S2 ∧ rAt w r v p = some u ∧ RV w Z n u S1 ∧
      ∀ w' n' S1', n'.isAg = false → (p = [] → n'.isOwn = true) → Agr w w' S2 → Agr w w' Z → RV w' Z n' u S1' → (∀ x, S1' x → ¬ S2 x) →
        RR w' Z (r.put p n') v (fun x => S1' x ∨ S2 x) ∧
        ∀ p' x, rLoc w r v p' = some x → ¬ Ext p p' → rLoc w' (r.put p n') v p' = some x ∧
          (∀ m, r.node.get p' = some m → m.isAg = false → w'.cell? ⟨x.1, x.2, none⟩ = w.cell? ⟨x.1, x.2, none⟩) := by
  cases p with
  | nil =>
    cases r with
    | bx cs => simp only [Root.node, PV.get, Option.some.injEq] at hg; subst hg; simp [PV.isAg] at ha
    | sv t =>
      simp only [Root.node, PV.get, Option.some.injEq] at hg; subst hg
      refine ⟨v, S, fun _ => False, ⟨fun _ h => h, fun _ h => h.elim, fun _ _ h => h⟩, rfl, h.2, ?_⟩
      intro w' n' S1' hn' hown hA hz hr hd
      refine ⟨⟨hown rfl, RV_mono (fun _ h => .inl h) hr⟩, ?_⟩
      intro p' x hx he
      exfalso
      cases p' with
      | nil => exact absurd (rLoc_ne hx) (by simp)
      | cons i p' => exact he ⟨List.nil_prefix, by simp⟩
  | cons i p =>
    obtain ⟨b', o', u, S1, S2, hl, hsep, hb', hown, hu, hn, hres⟩ := RR_focus h (by simp) ho hg ha
    refine ⟨u, S1, S2, hsep, (rAt_of_rLoc hl).trans hu, hn, ?_⟩
    intro w' n' S1' hn' _ hA hz hr hd
    obtain ⟨cur, ty, hh⟩ := hown
    obtain ⟨h1, h2⟩ := hres w' n' u S1' hn' (UpdC.of_agr hA hb' ⟨cur, ty, _, hh⟩ hu) hz hr hd
    refine ⟨h1, fun p' x hx he => ⟨(h2 p' x hx he).1, fun m hm hma => ?_⟩⟩
    by_cases e : p' = i :: p
    · subst e
      rw [hl] at hx
      simp only [Option.some.injEq] at hx; subst hx
      exact hA.cell hb'
    · exact (h2 p' x hx he).2 m hm hma e

theorem PV.get_set_sl : ∀ (q p : List Nat) (t c : PV) (f : Bool) (k : Nat) (es : List PV), ¬ q <+: p → t.get p = some (.sl f k es) → ∃ es', (t.set q c).get p = some (.sl f k es')
  | [], p, t, c, f, k, es, hq, hg => absurd List.nil_prefix hq
  | i :: q, [], t, c, f, k, es, hq, hg => by
    simp only [PV.get, Option.some.injEq] at hg; subst hg
    exact ⟨_, by simp [PV.set, PV.get]; rfl⟩
  | i :: q, j :: p, .ag cs, c, f, k, es, hq, hg => by
    simp only [PV.get] at hg
    cases hj : cs[j]? with
    | none => simp [hj] at hg
    | some d =>
      simp only [hj, Option.bind_some] at hg
      simp only [PV.set, PV.get]
      have hlt : j < cs.length := by rcases Nat.lt_or_ge j cs.length with h | h; exact h; simp [List.getElem?_eq_none h] at hj
      by_cases e : i = j
      · subst e
        rw [List.getElem?_set_self hlt, hj]
        exact PV.get_set_sl q p d c f k es (fun h => hq (by simpa using h)) hg
      · rw [List.getElem?_set_ne e, hj]; exact ⟨es, hg⟩
  | i :: q, j :: p, .sl f' k' ds, c, f, k, es, hq, hg => by
    simp only [PV.get] at hg
    cases hj : ds[j]? with
    | none => simp [hj] at hg
    | some d =>
      simp only [hj, Option.bind_some] at hg
      simp only [PV.set, PV.get]
      have hlt : j < ds.length := by rcases Nat.lt_or_ge j ds.length with h | h; exact h; simp [List.getElem?_eq_none h] at hj
      by_cases e : i = j
      · subst e
        rw [List.getElem?_set_self hlt, hj]
        exact PV.get_set_sl q p d c f k es (fun h => hq (by simpa using h)) hg
      · rw [List.getElem?_set_ne e, hj]; exact ⟨es, hg⟩
  | i :: q, j :: p, .sc _, c, f, k, es, hq, hg => by simp [PV.get] at hg
  | i :: q, j :: p, .xx, c, f, k, es, hq, hg => by simp [PV.get] at hg
theorem PV.get_set_up : ∀ (p : List Nat) (t c : PV) (cs : List PV) (j : Nat), t.get p = some (.ag cs) → j < cs.length → (t.set (p ++ [j]) c).get p = some (.ag (cs.set j c))
  | [], t, c, cs, j, hg, hj => by simp only [PV.get, Option.some.injEq] at hg; subst hg; simp [PV.set, PV.get]
  | i :: p, .ag ds, c, cs, j, hg, hj => by
    simp only [PV.get] at hg
    cases hi : ds[i]? with
    | none => simp [hi] at hg
    | some d =>
      simp only [hi, Option.bind_some] at hg
      have hlt : i < ds.length := by rcases Nat.lt_or_ge i ds.length with h | h; exact h; simp [List.getElem?_eq_none h] at hi
      simp only [PV.set, List.cons_append, PV.get, List.getElem?_set_self hlt, hi, Option.getD_some, Option.bind_some]
      exact PV.get_set_up p d c cs j hg hj
  | i :: p, .sl f k ds, c, cs, j, hg, hj => by
    simp only [PV.get] at hg
    cases hi : ds[i]? with
    | none => simp [hi] at hg
    | some d =>
      simp only [hi, Option.bind_some] at hg
      have hlt : i < ds.length := by rcases Nat.lt_or_ge i ds.length with h | h; exact h; simp [List.getElem?_eq_none h] at hi
      simp only [PV.set, List.cons_append, PV.get, List.getElem?_set_self hlt, hi, Option.getD_some, Option.bind_some]
      exact PV.get_set_up p d c cs j hg hj
  | i :: p, .sc _, c, cs, j, hg, hj => by simp [PV.get] at hg
  | i :: p, .xx, c, cs, j, hg, hj => by simp [PV.get] at hg
theorem PV.own_snoc : ∀ (p : List Nat) (t : PV) (cs : List PV) (j : Nat), t.get p = some (.ag cs) → t.own p = true → t.own (p ++ [j]) = true
  | [], t, cs, j, hg, ho => by simp only [PV.get, Option.some.injEq] at hg; subst hg; simp [PV.own]
  | i :: p, .ag ds, cs, j, hg, ho => by
    simp only [PV.get] at hg
    cases hi : ds[i]? with
    | none => simp [hi] at hg
    | some d =>
      simp only [hi, Option.bind_some] at hg
      simp only [PV.own, List.cons_append, hi, Option.getD_some] at ho ⊢
      exact PV.own_snoc p d cs j hg ho
  | i :: p, .sl f k ds, cs, j, hg, ho => by
    simp only [PV.get] at hg
    cases hi : ds[i]? with
    | none => simp [hi] at hg
    | some d =>
      simp only [hi, Option.bind_some] at hg
      simp only [PV.own, List.cons_append, hi, Option.getD_some, Bool.and_eq_true] at ho ⊢
      exact ⟨ho.1, PV.own_snoc p d cs j hg ho.2⟩
  | i :: p, .sc _, cs, j, hg, ho => by simp [PV.get] at hg
  | i :: p, .xx, cs, j, hg, ho => by simp [PV.get] at hg
theorem PV.own_set_up : ∀ (p : List Nat) (t c : PV) (cs : List PV) (j : Nat), t.get p = some (.ag cs) → t.own p = true → (t.set (p ++ [j]) c).own p = true
  | [], t, c, cs, j, hg, ho => by simp [PV.own]
  | i :: p, .ag ds, c, cs, j, hg, ho => by
    simp only [PV.get] at hg
    cases hi : ds[i]? with
    | none => simp [hi] at hg
    | some d =>
      simp only [hi, Option.bind_some] at hg
      have hlt : i < ds.length := by rcases Nat.lt_or_ge i ds.length with h | h; exact h; simp [List.getElem?_eq_none h] at hi
      simp only [PV.set, List.cons_append, PV.own, List.getElem?_set_self hlt, hi, Option.getD_some] at ho ⊢
      exact PV.own_set_up p d c cs j hg ho
  | i :: p, .sl f k ds, c, cs, j, hg, ho => by
    simp only [PV.get] at hg
    cases hi : ds[i]? with
    | none => simp [hi] at hg
    | some d =>
      simp only [hi, Option.bind_some] at hg
      have hlt : i < ds.length := by rcases Nat.lt_or_ge i ds.length with h | h; exact h; simp [List.getElem?_eq_none h] at hi
      simp only [PV.set, List.cons_append, PV.own, List.getElem?_set_self hlt, hi, Option.getD_some, Bool.and_eq_true] at ho ⊢
      exact ⟨ho.1, PV.own_set_up p d c cs j hg ho.2⟩
  | i :: p, .sc _, c, cs, j, hg, ho => by simp [PV.get] at hg
  | i :: p, .xx, c, cs, j, hg, ho => by simp [PV.get] at hg
theorem Root.node_put {r : Root} {p : List Nat} {c : PV} (hp : p ≠ []) : (r.put p c).node = r.node.set p c := by
  obtain ⟨i, q, rfl⟩ : ∃ i q, p = i :: q := by cases p with | nil => exact absurd rfl hp | cons i q => exact ⟨i, q, rfl⟩
  cases r <;> simp [Root.put, Root.node, PV.set]

theorem UpdC.setCell {w : World} {b o : Nat} {u : Value} {X : Nat → Prop} (h : OwnB w b) : UpdC w (w.setCell ⟨b, o, none⟩ u) b o u X := by
  obtain ⟨cur, ty, hh⟩ := h
  refine ⟨fun x _ hx => Below.heap_setCell w _ _ x hx, cur, ty, (0, 0), hh, ?_⟩
  simp [World.setCell, Array.getElem?_modify, hh]
theorem frozen_own {w : World} {b o : Nat} (h : OwnB w b) : w.frozen? ⟨b, o, none⟩ = false := by
  obtain ⟨cur, ty, hh⟩ := h
  simp [World.frozen?, hh]

theorem store1 {w : World} {Z : Nat → Prop} {r : Root} {v : Value} {S Sc : Nat → Prop} {q : List Nat} {n c : PV} {b o : Nat} {u : Value} (h : RR w Z r v S) (hq : q ≠ []) (ho : r.node.own q = true) (hg : r.node.get q = some n) (ha : n.isAg = false)
    (hl : rLoc w r v q = some (b, o)) (hc : RV w Z c u Sc) (hca : c.isAg = false) (hu : u.oneCell' = true) (hd : ∀ x, Sc x → ¬ S x) (hZ : ∀ x, S x → ¬ Z x) :
    (store ⟨b, o, none⟩ u).run P w = .ok () (w.setCell ⟨b, o, none⟩ u) ∧ S b ∧ RR (w.setCell ⟨b, o, none⟩ u) Z (r.put q c) v (fun x => S x ∨ Sc x) ∧
      ∀ p' x, rLoc w r v p' = some x → ¬ Ext q p' → rLoc (w.setCell ⟨b, o, none⟩ u) (r.put q c) v p' = some x ∧
        (∀ m, r.node.get p' = some m → m.isAg = false → p' ≠ q → (w.setCell ⟨b, o, none⟩ u).cell? ⟨x.1, x.2, none⟩ = w.cell? ⟨x.1, x.2, none⟩) := by
  obtain ⟨b', o', u', S1, S2, hl', hsep, hb', hown, hu', hn, hres⟩ := RR_focus h hq ho hg ha
  rw [hl] at hl'
  simp only [Option.some.injEq, Prod.mk.injEq] at hl'
  obtain ⟨rfl, rfl⟩ := hl'
  have hSb : S b := hsep.2.1 b hb'
  have hz : Agr w (w.setCell ⟨b, o, none⟩ u) Z := fun x hx => Below.heap_setCell w _ _ x (fun e => hZ b hSb (by have e : x = b := e; exact e ▸ hx))
  have hSc : Agr w (w.setCell ⟨b, o, none⟩ u) Sc := fun x hx => Below.heap_setCell w _ _ x (fun e => hd x hx (by have e : x = b := e; exact e.symm ▸ hSb))
  obtain ⟨hR, hL⟩ := hres (w.setCell ⟨b, o, none⟩ u) c u Sc hca (UpdC.setCell hown) hz (RV_congr hz (fun _ h => h) c u Sc Sc hSc (fun _ h => h) hc) (fun x hx h2 => hd x hx (hsep.2.1 x h2))
  refine ⟨?_, hSb, RR_congr (fun _ _ => rfl) (fun _ h => h) (fun _ _ => rfl) (fun x hx => hx.elim .inr (fun h => .inl (hsep.2.1 x h))) hR, hL⟩
  rw [run_store P w _ _ _ hu, hu']
  simp [frozen_own hown]

def ext (q p : List Nat) : Bool := decide (q.length < p.length) && q.isPrefixOf p
def pre (q p : List Nat) : Bool := decide (q.length ≤ p.length) && q.isPrefixOf p
theorem ext_iff {q p} : ext q p = true ↔ Ext q p := by
  simp only [ext, Bool.and_eq_true, decide_eq_true_eq, List.isPrefixOf_iff_prefix, Ext]
  constructor
  · rintro ⟨h1, h2⟩; exact ⟨h2, fun e => by rw [e] at h1; omega⟩
  · rintro ⟨h1, h2⟩
    refine ⟨?_, h1⟩
    obtain ⟨s, rfl⟩ := h1
    cases s with
    | nil => simp at h2
    | cons x s => simp
theorem pre_iff {q p} : pre q p = true ↔ q <+: p := by
  simp only [pre, Bool.and_eq_true, decide_eq_true_eq, List.isPrefixOf_iff_prefix]
  constructor
  · exact fun h => h.2
  · exact fun h => ⟨h.length_le, h⟩

def putCs (p : List Nat) : Nat → List PV → Root → Root
  | _, [], r => r
  | o, c :: cs, r => putCs p (o + 1) cs (r.put (p ++ [o]) c)

theorem storeCs {Z : Nat → Prop} {v : Value} {p : List Nat} {b o0 : Nat} : ∀ (cs : List PV) (vs : List Value) (o i : Nat) (w : World) (r : Root) (S Sm : Nat → Prop) (all : List PV), RR w Z r v S → r.node.own p = true → r.node.get p = some (.ag all) →
    rLoc w r v p = some (b, o0) → o + i + cs.length ≤ all.length → RVs w Z cs vs Sm → (∀ c ∈ cs, c.isAg = false) → (∀ x, Sm x → ¬ S x) → (∀ x, S x ∨ Sm x → ¬ Z x) →
    ∃ w', (storeCells ⟨b, o0 + o, none⟩ vs i).run P w = .ok () w' ∧ (cs ≠ [] → S b) ∧ (∀ x, x ≠ b → w'.heap[x]? = w.heap[x]?) ∧ w'.os = w.os ∧ TD w w' ∧ w'.output = w.output ∧ w'.heap.size = w.heap.size ∧
      RR w' Z (putCs p (o + i) cs r) v (fun x => S x ∨ Sm x) ∧
      (∀ p' x, rLoc w r v p' = some x → (∀ j, o + i ≤ j → j < o + i + cs.length → ¬ Ext (p ++ [j]) p') → rLoc w' (putCs p (o + i) cs r) v p' = some x ∧
        (∀ f k es, r.node.get p' = some (.sl f k es) → (∀ j, o + i ≤ j → j < o + i + cs.length → ¬ (p ++ [j]) <+: p') → w'.cell? ⟨x.1, x.2, none⟩ = w.cell? ⟨x.1, x.2, none⟩)) ∧
      (∀ p' f k es, r.node.get p' = some (.sl f k es) → (∀ j, o + i ≤ j → j < o + i + cs.length → ¬ (p ++ [j]) <+: p') → ∃ es', (putCs p (o + i) cs r).node.get p' = some (.sl f k es'))
  | [], vs, o, i, w, r, S, Sm, all, h, ho, hg, hl, hle, hr, ha, hd, hZ => by
    simp only [RVs] at hr; subst hr
    refine ⟨w, by simp [storeCells], by simp, fun _ _ => rfl, rfl, TD.refl, rfl, rfl, RR_congr (fun _ _ => rfl) (fun _ h => h) (fun _ _ => rfl) (fun _ h => .inl h) h, ?_, ?_⟩
    · intro p' x hx _; exact ⟨hx, fun _ _ _ _ _ => rfl⟩
    · intro p' f k es hg' _; exact ⟨es, hg'⟩
  | c :: cs, vs, o, i, w, r, S, Sm, all, h, ho, hg, hl, hle, hr, ha, hd, hZ => by
    obtain ⟨u, vs', S1, S2, rfl, hsep, hu1, hr1, hr2⟩ := hr
    simp only [List.length_cons] at hle
    have hlt : o + i < all.length := by omega
    have hgq : r.node.get (p ++ [o + i]) = some all[o + i] := VRs_views.get_snoc p r.node all (o + i) _ hg (List.getElem?_eq_getElem hlt)
    have hac : all[o + i].isAg = false := by
      obtain ⟨b1, o1, k1, S', hl1, hRN, _⟩ := rLoc_get h hg (rLoc_ne hl)
      exact RC_cell (List.getElem?_eq_getElem hlt) hRN.2
    obtain ⟨hrun, hSb, hR, hL⟩ := store1 (P := P) h (by simp) (PV.own_snoc p _ all (o + i) hg ho) hgq hac (rLoc_snoc hg hl hlt) hr1 (ha c (by simp)) hu1 (fun x hx => hd x (hsep.1 x hx)) (fun x hx => hZ x (.inl hx))
    have hl2 := (hL p _ hl (by rintro ⟨h1, h2⟩; have := h1.length_le; simp at this; omega)).1
    have hnode : (r.put (p ++ [o + i]) c).node = r.node.set (p ++ [o + i]) c := Root.node_put (by simp)
    have hg2 : (r.put (p ++ [o + i]) c).node.get p = some (.ag (all.set (o + i) c)) := by rw [hnode]; exact PV.get_set_up p _ c all _ hg hlt
    have ho2 : (r.put (p ++ [o + i]) c).node.own p = true := by rw [hnode]; exact PV.own_set_up p _ c all _ hg ho
    have hS2 : Agr w (w.setCell ⟨b, o0 + (o + i), none⟩ u) S2 := fun x hx => Below.heap_setCell w _ _ x (fun e => hd x (hsep.2.1 x hx) (by have e : x = b := e; exact e.symm ▸ hSb))
    have hz : Agr w (w.setCell ⟨b, o0 + (o + i), none⟩ u) Z := fun x hx => Below.heap_setCell w _ _ x (fun e => hZ b (.inl hSb) (by have e : x = b := e; exact e ▸ hx))
    obtain ⟨w', hrun', hSb', hoth, h1, h2, h3, h4, hRR, hLL, hGG⟩ := storeCs cs vs' o (i + 1) _ (r.put (p ++ [o + i]) c) (fun x => S x ∨ S1 x) S2 (all.set (o + i) c) hR ho2 hg2 hl2 (by simp; omega)
      (RVs_congr hz cs vs' S2 S2 hS2 (fun _ h => h) hr2) (fun c' hc' => ha c' (List.mem_cons_of_mem _ hc')) (fun x hx h' => h'.elim (hd x (hsep.2.1 x hx)) (fun h1 => hsep.2.2 x h1 hx))
      (fun x hx => hx.elim (fun h => h.elim (fun h => hZ x (.inl h)) (fun h => hZ x (.inr (hsep.1 x h)))) (fun h => hZ x (.inr (hsep.2.1 x h))))
    have ei : o + (i + 1) = o + i + 1 := by omega
    rw [ei] at hRR hLL hGG
    refine ⟨w', ?_, fun _ => hSb, ?_, ?_, ?_, ?_, ?_, ?_, ?_, ?_⟩
    · simp only [storeCells, Sem.run_bind]
      rw [add_none, Nat.add_assoc, hrun]
      simp only [Result.andThen_ok]
      exact hrun'
    · intro x hx; rw [hoth x hx]; exact Below.heap_setCell w _ _ x hx
    · exact h1
    · exact h2
    · exact h3
    · rw [h4]; simp
    · refine RR_congr (fun _ _ => rfl) (fun _ h => h) (fun _ _ => rfl) (fun x hx => ?_) hRR
      rcases hx with (hx | hx) | hx
      · exact .inl hx
      · exact .inr (hsep.1 x hx)
      · exact .inr (hsep.2.1 x hx)
    · intro p' x hx he
      obtain ⟨q1, q2⟩ := hL p' x hx (he (o + i) (Nat.le_refl _) (by simp))
      obtain ⟨q3, q4⟩ := hLL p' x q1 (fun j h1 h2 => he j (by omega) (by simp; omega))
      refine ⟨q3, fun f k es hg' hp' => ?_⟩
      have hnp := hp' (o + i) (Nat.le_refl _) (by simp)
      obtain ⟨es', hg''⟩ := PV.get_set_sl (p ++ [o + i]) p' r.node c f k es hnp hg'
      rw [q4 f k es' (by rw [hnode]; exact hg'') (fun j h1 h2 => hp' j (by omega) (by simp; omega))]
      exact q2 _ hg' rfl (fun e => hnp (e ▸ List.prefix_refl _))
    · intro p' f k es hg' hp'
      obtain ⟨es', hg''⟩ := PV.get_set_sl (p ++ [o + i]) p' r.node c f k es (hp' (o + i) (Nat.le_refl _) (by simp)) hg'
      exact hGG p' f k es' (by rw [hnode]; exact hg'') (fun j h1 h2 => hp' j (by omega) (by simp; omega))
end Go.Eng

set_option linter.unusedSimpArgs false
set_option linter.unusedVariables false
namespace Go.Eng
open Go.RowKit
variable {P : Program} {T : Nat → Option TI} {N : Nat}

mutual
theorem V.ren_id {f g : Nat → List Nat → Option (Nat × List Nat)} (hf : ∀ n p, f n p = some (n, p)) (hg : ∀ n p, g n p = some (n, p)) : ∀ x : V, x.ren f g = x
  | .c t => rfl
  | .nl => rfl
  | .g cs => by simp only [V.ren, V.rens_id hf hg cs]
  | .rf n p => by simp only [V.ren, hf]
  | .rn n p s => by simp only [V.ren, hf]
  | .pt n p o => by simp only [V.ren, hg]
  | .fp cs o => rfl
  | .fn h cs => by simp only [V.ren, V.rens_id hf hg cs]
  | .tu cs => by simp only [V.ren, V.rens_id hf hg cs]
  | .dead => rfl
theorem V.rens_id {f g : Nat → List Nat → Option (Nat × List Nat)} (hf : ∀ n p, f n p = some (n, p)) (hg : ∀ n p, g n p = some (n, p)) : ∀ xs : List V, V.rens f g xs = xs
  | [] => rfl
  | x :: xs => by simp only [V.rens, V.ren_id hf hg x, V.rens_id hf hg xs]
end
theorem St.move_nil (st : St) : st.move [] = st := by
  cases st
  simp only [St.move, List.not_mem_nil, if_false]
  congr
  funext t
  exact V.ren_id (fun n p => by simp [kill]) (fun n p => by simp [kill]) _

def OpOK (P : Program) (N : Nat) (o : Oper) (st st' : St) : Prop :=
  ∀ fr a w, FrOK P N fr → Rel fr st a w → o.wp P a w (fun a' w' => Rel fr st' a' w') (fun _ _ _ => False)

theorem OpOK.val {o : Oper} {st st' : St} (h : ∀ fr S rv a w, FrOK P N fr → Rel0 fr S rv st a w → ∃ u w', (execOp a.eval o).run P w = .ok (.value u) w' ∧ Rel fr st' (a.put o.dst u) w') : OpOK P N o st st' := by
  intro fr a w hf ⟨S, rv, hR⟩
  obtain ⟨u, w', hrun, hr⟩ := h fr S rv a w hf hR
  simp only [Oper.wp, hrun, Oper.upon]
  exact hr

def OpOKE (P : Program) (N : Nat) (o : Oper) (st st' : St) : Prop :=
  ∀ fr a w, FrOK P N fr → Rel fr st a w → o.wp P a w (fun a' w' => Rel fr st' a' w' ∧ ExtW w w') (fun _ _ _ => False)
theorem OpOKE.val {o : Oper} {st st' : St} (h : ∀ fr S rv a w, FrOK P N fr → Rel0 fr S rv st a w → ∃ u w', (execOp a.eval o).run P w = .ok (.value u) w' ∧ ExtW w w' ∧ Rel fr st' (a.put o.dst u) w') : OpOKE P N o st st' := by
  intro fr a w hf ⟨S, rv, hR⟩
  obtain ⟨u, w', hrun, he, hr⟩ := h fr S rv a w hf hR
  simp only [Oper.wp, hrun, Oper.upon]
  exact ⟨hr, he⟩
theorem OpOKE.ok {o : Oper} {st st' : St} (h : OpOKE P N o st st') : OpOK P N o st st' :=
  fun fr a w hf hr => Oper.wp_mono (fun _ _ h => h.1) (h fr a w hf hr)
theorem ext_alloc (w : World) (o : Obj) : ExtW w (w.alloc o) := ⟨by show w.heap.size ≤ (w.heap.push o).size; simp, fun b hb => heap_alloc_old b hb⟩

def dIn (N : Nat) (d : Option Nat) : Bool :=
  match d with
  | none => true
  | some d => decide (d < N)
theorem dOK_of {N d} (h : dIn N d = true) : dOK N d := by
  rintro x rfl
  simpa [dIn] using h
theorem valV_op (hT : TOK P T) {o : Oper} {st : St} {y : V} (hv : valV T st o = some y) (hd : dIn N o.dst = true) : OpOK P N o st (st.put o.dst y) :=
  OpOK.val fun fr S rv a w hf hR => by
    obtain ⟨u, hrun, hr⟩ := valV_ok hT hR hv
    exact ⟨u, w, hrun w (.refl w), S, rv, hR.put (hf.n ▸ dOK_of hd) hr⟩

def boxSt (T : Nat → Option TI) (N : Nat) (st : St) (t : Nat) (x : V) (d : Nat) : Option St :=
  (T t).bind fun i => (takeV st i x).bind fun q =>
    if q.2.Nodup ∧ d < N ∧ st.σ (rootName d) = none then some (((st.move q.2).new (rootName d) (.bx q.1)).put (some d) (.pt (rootName d) [] 0)) else none
instance (st : St) (n : Nat) : Decidable (st.σ n = none) := by
  cases h : st.σ n with
  | none => exact isTrue rfl
  | some r => exact isFalse (by simp)
def allocSt (T : Nat → Option TI) (N : Nat) (st : St) (t : Nat) (d : Nat) : Option St :=
  (T t).bind fun i => if d < N ∧ st.σ (rootName d) = none then some ((st.new (rootName d) (.bx i.zero)).put (some d) (.pt (rootName d) [] 0)) else none
def St.drop1 (st : St) (n : Nat) : St := if st.σ n = none then st else st.move [n]
theorem drop1_none (st : St) (n : Nat) : (st.drop1 n).σ n = none := by
  unfold St.drop1
  split
  · assumption
  · simp [St.move]
theorem Rel0.moveS {fr S rv st a w} (h : Rel0 fr S rv st a w) (ms : List Nat) : Rel0 fr S rv (st.move ms) a w := by
  have hσ : ∀ n r, (st.move ms).σ n = some r → n ∉ ms ∧ st.σ n = some r := by
    intro n r hn
    simp only [St.move] at hn
    split at hn
    · cases hn
    · exact ⟨‹_›, hn⟩
  refine { h with
    rr := fun n r hn => h.rr n r (hσ n r hn).2
    sout := fun n r b hn => h.sout n r b (hσ n r hn).2
    sdis := fun n m r r' b hn hm => h.sdis n m r r' b (hσ n r hn).2 (hσ m r' hm).2
    rv0 := fun n r v hn => h.rv0 n r v (hσ n r hn).2
    env := fun t => ?_ }
  refine VR_ren (fun _ _ => rfl) (fun _ h => h) (kill ms) (kill ms) ?_ ?_ _ _ (h.env t)
  · intro n p v hv
    unfold kill
    split
    · rename_i m q e
      split at e
      · cases e
      · cases e
        rw [VR_rf] at *
        obtain ⟨r, h1, h2⟩ := hv
        exact ⟨r, by simpa [St.move, ‹n ∉ ms›] using h1, h2⟩
    · trivial
  · intro n p o v hv
    unfold kill
    split
    · rename_i m q e
      split at e
      · cases e
      · cases e
        rw [VR_pt] at *
        obtain ⟨r, b, o', h1, h2⟩ := hv
        exact ⟨r, b, o', by simpa [St.move, ‹n ∉ ms›] using h1, h2⟩
    · trivial
theorem Rel0.drop1 {fr S rv st a w} (h : Rel0 fr S rv st a w) (n : Nat) : Rel0 fr S rv (st.drop1 n) a w := by
  unfold St.drop1
  split
  · exact h
  · exact h.moveS [n]
def nilSt (T : Nat → Option TI) (N : Nat) (st : St) (t : Nat) (d : Nat) : Option St :=
  (T t).bind fun i => match i.kd with
    | .sl _ k _ => if d < N then some (((st.drop1 (rootName d)).new (rootName d) (.sv (.sl false k []))).put (some d) (.rf (rootName d) [])) else none
    | _ => none
def buildSlSt (T : Nat → Option TI) (N : Nat) (st : St) (t n : Nat) (ps : List (Nat × V)) (d : Nat) : Option St :=
  (T t).bind fun i => match i.kd with
    | .sl e k _ => (T e).bind fun ie => (takeEls st ie (ps.map (·.2))).bind fun q =>
        if q.2.Nodup ∧ d < N ∧ st.σ (rootName d) = none ∧ ps.map (·.1) = List.range n ∧ ie.size = k ∧ k ≠ 0 ∧ n * k ≤ 16777216 then
          some (((st.move q.2).new (rootName d) (.sv (.sl false k q.1))).put (some d) (.rf (rootName d) [])) else none
    | _ => none

theorem box_opE (hT : TOK P T) {o : Oper} {st st' : St} {t x d} (ho : o.op = .box t x) (hd : o.dst = some d) (h : boxSt T N st t (evalO st x) d = some st') : OpOKE P N o st st' :=
  OpOKE.val fun fr S rv a w hf hR => by
    simp only [boxSt, Option.bind_eq_some_iff] at h
    obtain ⟨i, hi, ⟨cs, ms⟩, ht, h⟩ := h
    split at h
    · rename_i hc
      cases h
      obtain ⟨hnd, hdN, hσ⟩ := hc
      obtain ⟨r1, _, r3, _⟩ := takeV_ok hR (evalO_ok hR x) ht hnd
      refine ⟨.pointer (some ⟨w.heap.size, 0, none⟩), w.alloc (.cells (a.eval x).cells t), ?_, ext_alloc _ _, ?_⟩
      · simp only [execOp, ho, Instr.box, newVar, newRow, Sem.run_bind, run_newObj, Result.andThen_ok, Sem.run_pure, World.alloc_eq]
      · rw [hd]
        exact hR.newBox hf hdN hσ r1 r3
    · cases h
theorem box_op (hT : TOK P T) {o : Oper} {st st' : St} {t x d} (ho : o.op = .box t x) (hd : o.dst = some d) (h : boxSt T N st t (evalO st x) d = some st') : OpOK P N o st st' := (box_opE hT ho hd h).ok
theorem alloc_opE (hT : TOK P T) {o : Oper} {st st' : St} {t d} (ho : o.op = .alloc t) (hd : o.dst = some d) (h : allocSt T N st t d = some st') : OpOKE P N o st st' :=
  OpOKE.val fun fr S rv a w hf hR => by
    simp only [allocSt, Option.bind_eq_some_iff] at h
    obtain ⟨i, hi, h⟩ := h
    split at h
    · rename_i hc
      cases h
      obtain ⟨hdN, hσ⟩ := hc
      obtain ⟨z, hz, hzc, hzo⟩ := run_zeroValue (hT t i hi) w
      refine ⟨.pointer (some ⟨w.heap.size, 0, none⟩), w.alloc (.cells z.cells t), ?_, ext_alloc _ _, ?_⟩
      · simp only [execOp, ho, Instr.alloc, newVar, newRow, Sem.run_bind, hz, run_newObj, Result.andThen_ok, Sem.run_pure, World.alloc_eq]
      · rw [hd]
        have := hR.newBox hf hdN hσ (cs := i.zero) (arr := z.cells) (ms := []) (ty := t) (by rw [hzc]; exact RVs_zero _ hzo) (by simp)
        rwa [St.move_nil] at this
    · cases h
theorem alloc_op (hT : TOK P T) {o : Oper} {st st' : St} {t d} (ho : o.op = .alloc t) (hd : o.dst = some d) (h : allocSt T N st t d = some st') : OpOK P N o st st' := (alloc_opE hT ho hd h).ok
theorem nil_opE (hT : TOK P T) {o : Oper} {st st' : St} {t x d} (ho : o.op = .assign x) (hd : o.dst = some d) (hx : evalO st x = .nl) (h : nilSt T N st t d = some st') : OpOKE P N o st st' :=
  OpOKE.val fun fr S rv a w hf hR => by
    simp only [nilSt, Option.bind_eq_some_iff] at h
    obtain ⟨i, hi, h⟩ := h
    split at h
    · split at h
      · rename_i e k b hk hc
        cases h
        have hdN := hc
        have hv := evalO_ok hR x
        rw [hx, VR_nl] at hv
        have hσ := drop1_none st (rootName d)
        have hR := hR.drop1 (rootName d)
        refine ⟨a.eval x, w, by simp only [execOp, ho, Sem.run_pure], .refl w, ?_⟩
        obtain ⟨S', rv', hR', hrv⟩ := hR.create (w' := w) (d := rootName d) (r := .sv (.sl false k [])) (v := .slice none 0 0) (ms := []) (S1 := fun _ => False) rfl TD.refl rfl (Nat.le_refl _) (fun _ _ => rfl) hσ (by simp)
          ⟨rfl, by rw [RV_ow]; exact .inl ⟨rfl, rfl⟩⟩ (fun _ h => h.elim) (hf.fresh hdN)
        rw [St.move_nil] at hR'
        rw [hd]
        refine ⟨S', rv', hR'.put (fun y hy => by cases hy; exact hf.n ▸ hdN) ?_⟩
        rw [VR_rf]
        exact ⟨_, by simp [St.new]; rfl, by simp [rAt, hrv, hv], false, k, [], rfl⟩
      · cases h
    · cases h

theorem nil_op (hT : TOK P T) {o : Oper} {st st' : St} {t x d} (ho : o.op = .assign x) (hd : o.dst = some d) (hx : evalO st x = .nl) (h : nilSt T N st t d = some st') : OpOK P N o st st' := (nil_opE hT ho hd hx h).ok
theorem zipIdx_parts {α β : Type} : ∀ (ps : List (Nat × α)) (f : α → β) (j : Nat), ps.map (·.1) = (List.range ps.length).map (· + j) → ps.map (fun q => (q.1, f q.2)) = ((ps.map fun q => f q.2).zipIdx j).map fun q => (q.2, q.1)
  | [], f, j, h => rfl
  | (i, x) :: ps, f, j, h => by
    simp only [List.map_cons, List.length_cons, List.range_succ_eq_map, List.map_map, List.cons.injEq, Function.comp_def] at h
    obtain ⟨h1, h2⟩ := h
    have ih := zipIdx_parts ps f (j + 1) (by rw [h2]; apply List.map_congr_left; intro a _; simp; omega)
    simp only [List.map_cons, List.zipIdx_cons, ih]
    simp at h1
    simp [h1]

theorem buildSl_opE (hT : TOK P T) {o : Oper} {st st' : St} {t n ps d} (ho : o.op = .buildSlice t n ps) (hd : o.dst = some d) (h : buildSlSt T N st t n (ps.toList.map fun q => (q.1, evalO st q.2)) d = some st') : OpOKE P N o st st' :=
  OpOKE.val fun fr S rv a w hf hR => by
    simp only [buildSlSt, Option.bind_eq_some_iff] at h
    obtain ⟨i, hi, h⟩ := h
    split at h
    · rename_i e k b hk
      simp only [Option.bind_eq_some_iff] at h
      obtain ⟨ie, hie, ⟨es, ms⟩, ht, h⟩ := h
      split at h
      · rename_i hc
        cases h
        obtain ⟨hnd, hdN, hσ, hidx, hsz, hk0, hsmall⟩ := hc
        obtain ⟨dd, hdd, _, hkd⟩ := (hT t i hi).und
        rw [hk] at hkd
        obtain ⟨rfl, ie', hie', hs', _⟩ := hkd
        obtain ⟨inf, z, hinf, hisz, hz, hzc, hzo, _⟩ := (hT e ie hie).inf
        have hzlen := (hT e ie hie).len
        have h1 := size_pos_of_TI (hT e ie hie)
        have hevs : VRs w fr.X st.σ rv ((ps.toList.map fun q => (q.1, evalO st q.2)).map (·.2)) (ps.toList.map fun q => a.eval q.2) := by
          have := VRs_map hR (ps.toList.map (·.2))
          simpa [List.map_map, Function.comp_def] using this
        obtain ⟨r1, r3⟩ := takeEls_ok hR _ _ _ _ hevs ht hnd
        obtain ⟨l1, l2⟩ := REs_length _ _ _ r1
        have hlen : es.length = n := by
          have : (ps.toList.map fun q => (q.1, evalO st q.2)).map (·.1) = List.range n := hidx
          have := congrArg List.length this
          simp at this l1
          omega
        have hpl : ps.toList.length = n := by
          have := congrArg List.length hidx
          simpa using this
        have hcs : ∀ v ∈ (ps.toList.map fun q => a.eval q.2), v.cells.size = ie.size := by
          have key : ∀ (es : List PV) (vss : List (List Value)) (S : Nat → Prop), REs w fr.X ie es vss S → ∀ vs ∈ vss, vs.length = ie.zero.length := by
            intro es
            induction es with
            | nil => intro vss S h vs hvs; simp [REs] at h; simp [h] at hvs
            | cons e es ih =>
              intro vss S h vs hvs
              obtain ⟨vs', vss', S1, S2, cs, rfl, hsep, _, _, hl, h1, h2⟩ := h
              rcases List.mem_cons.1 hvs with rfl | hvs
              · rw [RVs_length _ _ _ h1, hl]
              · exact ih vss' S2 h2 vs hvs
          intro v hv
          have := key _ _ _ r1 v.cells.toList (List.mem_map.2 ⟨v, hv, rfl⟩)
          simpa [hzlen] using this
        by_cases hn : n = 0
        · subst hn
          have hps : ps = #[] := by simpa using hpl
          subst hps
          simp at hlen
          subst hlen
          refine ⟨.slice (some ⟨w.heap.size, 0, none⟩) 0 0, w.alloc (.cells #[] e), ?_, ext_alloc _ _, ?_⟩
          · simp [execOp, ho, Instr.buildSlice, run_underlying hdd, sizeOf, typeInfo, hinf, Instr.fill, newRow]
            rw [show Array.map (fun _ : Nat => (default : Value)) (Array.range 0) = #[] from Array.eq_empty_of_size_eq_zero (by simp)]
          · rw [hd]
            have := hR.newRow hf hdN hσ (es := []) (vss := []) (arr := #[]) (cap := 0) (ms := ms) (ty := e) h1 (by
              have : ms = [] := by simpa [takeEls] using congrArg (fun q => q.map (·.2)) ht.symm
              subst this; rfl) r3 (by simp) (by simp) (by simp)
            simpa [hzlen, hsz] using this
        · obtain ⟨arr', hfill, hal, has⟩ := fill_dense (k := ie.size) (ps.toList.map fun q => a.eval q.2) 0 ((Array.range (n * ie.size)).map (z.cells[· % z.cells.size]!)) hcs (by simp [hpl])
          have hparts : (ps.map fun (i, x) => (i, a.eval x)).toList = ((ps.toList.map fun q => a.eval q.2).zipIdx 0).map fun q => (q.2, q.1) := by
            rw [Array.toList_map]
            exact zipIdx_parts ps.toList a.eval 0 (by
              have : ps.toList.map (·.1) = List.range n := by simpa [List.map_map, Function.comp_def] using hidx
              rw [this, hpl]; exact (List.map_id' _).symm)
          have hrun := run_buildSlice (P := P) w t e n (ps.map fun (i, x) => (i, a.eval x)) arr' inf z hdd hinf hz (by rw [hisz, hsz]; omega) (by rw [hisz, hsz]; exact Nat.mul_ne_zero hn hk0) (by rw [hisz, hparts]; exact hfill)
          refine ⟨_, _, by simp only [execOp, ho, Sem.run_bind, hrun, Result.andThen_ok, Sem.run_pure]; rfl, ext_alloc _ _, ?_⟩
          rw [hd]
          have hal' : arr'.toList = ((ps.toList.map fun q => a.eval q.2).map fun v => v.cells.toList).flatten := by
            rw [hal]
            simp [hpl]
          have := hR.newRow hf hdN hσ (es := es) (arr := arr') (cap := n) (ty := e) h1 r1 r3 (fun j v hj => by rw [hal']; exact hj) (by omega) (by rw [has]; simp [hzlen])
          rw [hlen, hzlen, hsz] at this
          exact this
      · cases h
    · cases h
theorem buildSl_op (hT : TOK P T) {o : Oper} {st st' : St} {t n ps d} (ho : o.op = .buildSlice t n ps) (hd : o.dst = some d) (h : buildSlSt T N st t n (ps.toList.map fun q => (q.1, evalO st q.2)) d = some st') : OpOK P N o st st' := (buildSl_opE hT ho hd h).ok
end Go.Eng

set_option linter.unusedSimpArgs false
set_option linter.unusedVariables false
namespace Go.Eng
open Go.RowKit
variable {P : Program} {T : Nat → Option TI} {N : Nat}

def killP (n : Nat) (ms : List Nat) (qs : List (List Nat)) (m : Nat) (p : List Nat) : Option (Nat × List Nat) := if m ∈ ms then none else if m = n ∧ (qs.any fun q => pre q p) = true then none else some (m, p)
def killQ (n : Nat) (ms : List Nat) (qs : List (List Nat)) (m : Nat) (p : List Nat) : Option (Nat × List Nat) := if m ∈ ms then none else if m = n ∧ (qs.any fun q => ext q p) = true then none else some (m, p)
def St.upd (st : St) (n : Nat) (r : Root) (ms : List Nat) (qs : List (List Nat)) : St :=
  { env := fun t => (st.env t).ren (killP n ms qs) (killQ n ms qs), σ := fun m => if m = n then some r else if m ∈ ms then none else st.σ m }
theorem St.upd_nil (st : St) (n : Nat) (r : Root) : st.upd n r [] [] = st.new n r := by
  cases st
  simp only [St.upd, St.new, List.not_mem_nil, if_false]
  congr
  funext t
  exact V.ren_id (fun n p => by simp [killP]) (fun n p => by simp [killQ]) _
def PV.isSc : PV → Bool
  | .sc _ => true
  | _ => false

theorem get_thru : ∀ (q : List Nat) (t : PV) (x : Value) (i : Nat) (s : List Nat), t.get q = some (.sc x) → t.get (q ++ i :: s) = none
  | [], t, x, i, s, h => by simp only [PV.get, Option.some.injEq] at h; subst h; simp [PV.get]
  | j :: q, .ag cs, x, i, s, h => by
    simp only [PV.get, List.cons_append] at h ⊢
    cases hj : cs[j]? with
    | none => simp
    | some d => simp only [hj, Option.bind_some] at h ⊢; exact get_thru q d x i s h
  | j :: q, .sl _ _ cs, x, i, s, h => by
    simp only [PV.get, List.cons_append] at h ⊢
    cases hj : cs[j]? with
    | none => simp
    | some d => simp only [hj, Option.bind_some] at h ⊢; exact get_thru q d x i s h
  | j :: q, .sc _, x, i, s, h => by simp [PV.get] at h
  | j :: q, .xx, x, i, s, h => by simp [PV.get] at h
theorem locate_thru {w : World} : ∀ (q : List Nat) (t : PV) (x : Value) (i : Nat) (s : List Nat) (b o : Nat), t.get q = some (.sc x) → locate w (q ++ i :: s) t b o = none
  | [], t, x, i, s, b, o, h => by simp only [PV.get, Option.some.injEq] at h; subst h; simp [locate]
  | j :: q, .ag cs, x, i, s, b, o, h => by
    simp only [PV.get, List.cons_append, locate] at h ⊢
    cases hj : cs[j]? with
    | none => simp
    | some d => simp only [hj, Option.bind_some] at h ⊢; exact locate_thru q d x i s _ _ h
  | j :: q, .sl _ _ cs, x, i, s, b, o, h => by
    simp only [PV.get, List.cons_append, locate] at h ⊢
    cases hj : cs[j]? with
    | none => split <;> simp
    | some d =>
      simp only [hj, Option.bind_some] at h ⊢
      split
      · exact locate_thru q d x i s _ _ h
      · rfl
  | j :: q, .sc _, x, i, s, b, o, h => by simp [PV.get] at h
  | j :: q, .xx, x, i, s, b, o, h => by simp [PV.get] at h
theorem rLoc_thru {w : World} {r : Root} {v : Value} {q : List Nat} {x : Value} {i : Nat} {s : List Nat} (h : r.node.get q = some (.sc x)) (hq : q ≠ []) : rLoc w r v (q ++ i :: s) = none := by
  cases r with
  | bx cs =>
    cases v with
    | pointer a => cases a with
      | none => rfl
      | some a => exact locate_thru q (.ag cs) x i s _ _ h
    | _ => rfl
  | sv t =>
    obtain ⟨j, q', rfl⟩ : ∃ j q', q = j :: q' := by cases q with | nil => exact absurd rfl hq | cons j q' => exact ⟨j, q', rfl⟩
    cases t with
    | sl f k es =>
      cases v with
      | slice A n c => cases A with
        | none => rfl
        | some A =>
          simp only [Root.node, PV.get] at h
          simp only [rLoc, List.cons_append]
          cases hj : es[j]? with
          | none => simp
          | some d => simp only [hj, Option.bind_some] at h ⊢; exact locate_thru q' d x i s _ _ h
      | _ => rfl
    | _ => rfl
theorem sc_no_ext {w : World} {r : Root} {v : Value} {q p : List Nat} {x : Value} {y} (h : r.node.get q = some (.sc x)) (hq : q ≠ []) (hl : rLoc w r v p = some y) : ¬ Ext q p := by
  rintro ⟨⟨s, rfl⟩, hne⟩
  cases s with
  | nil => simp at hne
  | cons i s => rw [rLoc_thru h hq] at hl; cases hl
theorem sc_no_pre {r : Root} {q p : List Nat} {x : Value} {f k es} (h : r.node.get q = some (.sc x)) (hg : r.node.get p = some (.sl f k es)) : ¬ q <+: p := by
  rintro ⟨s, rfl⟩
  cases s with
  | nil => rw [List.append_nil, h] at hg; cases hg
  | cons i s => rw [get_thru q r.node x i s h] at hg; cases hg

theorem Rel0.stored {fr S rv st a w} (h : Rel0 fr S rv st a w) {w' : World} {n : Nat} {r r' : Root} {ms : List Nat} {qs : List (List Nat)} {b : Nat}
    (hσ : st.σ n = some r) (hnm : n ∉ ms) (hms : ∀ m ∈ ms, ∃ t, st.σ m = some (.sv t))
    (hSb : S n b) (hoth : ∀ x, x ≠ b → w'.heap[x]? = w.heap[x]?) (hos : w'.os = w.os) (htape : TD w w') (hout : w'.output = w.output) (hsz : w'.heap.size = w.heap.size)
    (hR : RR w' fr.X r' (rv n) (fun x => S n x ∨ ∃ m ∈ ms, S m x))
    (hL : ∀ p' x, rLoc w r (rv n) p' = some x → (∀ q ∈ qs, ¬ Ext q p') → rLoc w' r' (rv n) p' = some x ∧
        (∀ f k es, r.node.get p' = some (.sl f k es) → (∀ q ∈ qs, ¬ q <+: p') → w'.cell? ⟨x.1, x.2, none⟩ = w.cell? ⟨x.1, x.2, none⟩))
    (hG : ∀ p' f k es, r.node.get p' = some (.sl f k es) → (∀ q ∈ qs, ¬ q <+: p') → ∃ es', r'.node.get p' = some (.sl f k es'))
    (hkind : (∃ t, r = .sv t) ↔ (∃ t, r' = .sv t)) :
    Rel0 fr (fun m => if m = n then (fun x => S n x ∨ ∃ m ∈ ms, S m x) else S m) rv (st.upd n r' ms qs) a w' := by
  have hX : ¬ fr.Y b := (h.sout n r b hσ hSb).2.1
  refine h.change (C := fun m => m = n ∨ m ∈ ms) hos htape hout (by omega) (fun x hx => hoth x (fun e => hX (e ▸ hx))) ?_ ?_ ?_ (fun _ _ => rfl) ?_ ?_ ?_ ?_ (killP n ms qs) (killQ n ms qs) ?_ ?_ ?_ ?_
  · intro m r1 hc hr1 x hx
    refine hoth x (fun e => ?_)
    subst e
    exact h.sdis m n r1 r x hr1 hσ (fun e => hc (.inl e)) hx hSb
  · intro m hc; simp only [not_or] at hc; simp [hc.1, hc.2]
  · intro m hc; simp only [not_or] at hc; simp [hc.1]
  · intro m r1 hc hr1
    by_cases e : m = n
    · subst e; simp only [if_true, Option.some.injEq] at hr1; subst hr1; simpa using hR
    · have := hc.resolve_left e; simp [e, this] at hr1
  · intro m r1 x hc hr1 hx
    by_cases e : m = n
    · subst e
      simp only [if_true] at hx
      rcases hx with hx | ⟨m', hm', hx⟩
      · exact .inr ⟨m, r, .inl rfl, hσ, hx⟩
      · obtain ⟨t, ht⟩ := hms m' hm'; exact .inr ⟨m', _, .inr hm', ht, hx⟩
    · have := hc.resolve_left e; simp [e, this] at hr1
  · intro m1 m2 r1 r2 x hc1 hc2 h1 h2 hne _ _
    by_cases e : m1 = n
    · by_cases e' : m2 = n
      · exact hne (e.trans e'.symm)
      · have := hc2.resolve_left e'; simp [e', this] at h2
    · have := hc1.resolve_left e; simp [e, this] at h1
  · intro m r1 v hc hr1 hv
    by_cases e : m = n
    · subst e; exact h.rv0 m r v hσ hv
    · have := hc.resolve_left e; simp [e, this] at hr1
  · intro m p v hc hv
    unfold killP
    by_cases hm : m ∈ ms
    · simp [hm]
    · have e := hc.resolve_right hm
      subst e
      simp only [hm, if_false, true_and]
      split
      · rename_i hq; split at hq
        · cases hq
        · rename_i hne
          simp only [Option.some.injEq, Prod.mk.injEq] at hq
          obtain ⟨rfl, rfl⟩ := hq
          have hnp : ∀ q ∈ qs, ¬ q <+: p := by
            intro q hq hp
            exact hne (List.any_eq_true.2 ⟨q, hq, pre_iff.2 hp⟩)
          rw [VR_rf] at hv ⊢
          obtain ⟨r1, hr1, hat, f, k, es, hg⟩ := hv
          rw [hσ] at hr1; cases hr1
          obtain ⟨es', hg'⟩ := hG p f k es hg hnp
          refine ⟨r', by simp, ?_, f, k, es', hg'⟩
          by_cases hp0 : p = [] ∧ ∃ t, r = .sv t
          · obtain ⟨rfl, t, rfl⟩ := hp0
            obtain ⟨t', rfl⟩ := hkind.1 ⟨t, rfl⟩
            simpa [rAt] using hat
          · have hl : ∃ x, rLoc w r (rv m) p = some x ∧ w.cell? ⟨x.1, x.2, none⟩ = some v := by
              cases r with
              | bx cs => simpa [rAt, Option.bind_eq_some_iff] using hat
              | sv t =>
                cases p with
                | nil => exact absurd ⟨rfl, t, rfl⟩ hp0
                | cons i p => simpa [rAt, Option.bind_eq_some_iff] using hat
            obtain ⟨x, hl, hx⟩ := hl
            obtain ⟨h1, h2⟩ := hL p x hl (fun q hq he => hnp q hq he.1)
            rw [rAt_of_rLoc h1, h2 f k es hg hnp]; exact hx
      · trivial
  · intro m p o v hc hv
    unfold killQ
    by_cases hm : m ∈ ms
    · simp [hm]
    · have e := hc.resolve_right hm
      subst e
      simp only [hm, if_false, true_and]
      split
      · rename_i hq; split at hq
        · cases hq
        · rename_i hne
          simp only [Option.some.injEq, Prod.mk.injEq] at hq
          obtain ⟨rfl, rfl⟩ := hq
          rw [VR_pt] at hv ⊢
          obtain ⟨r1, b1, o1, hr1, hl, rfl⟩ := hv
          rw [hσ] at hr1; cases hr1
          exact ⟨r', b1, o1, by simp, (hL p _ hl (fun q hq he => hne (List.any_eq_true.2 ⟨q, hq, ext_iff.2 he⟩))).1, rfl⟩
      · trivial
  · intro m p hc; simp only [not_or] at hc; simp [killP, hc.1, hc.2]
  · intro m p hc; simp only [not_or] at hc; simp [killQ, hc.1, hc.2]

def storeSt (T : Nat → Option TI) (st : St) (t : Nat) (p x : V) : Option St :=
  (T t).bind fun i => match p with
    | .pt n q o => (takeV st i x).bind fun m => (st.σ n).bind fun r => (r.node.get q).bind fun node =>
        if m.2.Nodup ∧ n ∉ m.2 ∧ r.node.own q = true then
          match node with
          | .ag all => if o + m.1.length ≤ all.length ∧ m.1 ≠ [] then
              some (st.upd n (putCs q o m.1 r) m.2 (if ((all.drop o).take m.1.length).all PV.isSc then [] else (List.range m.1.length).map fun j => q ++ [o + j])) else none
          | old => if o = 0 ∧ q ≠ [] then match m.1 with
              | [c] => some (st.upd n (r.put q c) m.2 (if old.isSc then [] else [q]))
              | _ => none
            else none
        else none
    | _ => none

theorem putCs_kind (p : List Nat) : ∀ (cs : List PV) (o : Nat) (r : Root), (∃ t, r = .sv t) ↔ ∃ t, putCs p o cs r = .sv t
  | [], o, r => Iff.rfl
  | c :: cs, o, r => by
    simp only [putCs]
    rw [← putCs_kind p cs (o + 1)]
    obtain ⟨i, q, e⟩ : ∃ i q, p ++ [o] = i :: q := by cases p with | nil => exact ⟨o, [], rfl⟩ | cons i p => exact ⟨i, p ++ [o], rfl⟩
    rw [e]
    cases r <;> simp [Root.put, PV.set]
theorem put_kind {q : List Nat} {r : Root} {c : PV} (hq : q ≠ []) : (∃ t, r = .sv t) ↔ ∃ t, r.put q c = .sv t := by
  obtain ⟨i, q', rfl⟩ : ∃ i q', q = i :: q' := by cases q with | nil => exact absurd rfl hq | cons i q' => exact ⟨i, q', rfl⟩
  cases r <;> simp [Root.put, PV.set]

theorem store_op (hT : TOK P T) {o : Oper} {st st' : St} {t p x} (ho : o.op = .store t p x) (hd : o.dst = none) (h : storeSt T st t (evalO st p) (evalO st x) = some st') : OpOK P N o st st' := by
  intro fr a w hf ⟨S, rv, hR⟩
  simp only [storeSt, Option.bind_eq_some_iff] at h
  obtain ⟨i, hi, h⟩ := h
  split at h
  · rename_i n q off hp
    simp only [Option.bind_eq_some_iff] at h
    obtain ⟨⟨cs, ms⟩, ht, r, hσ, node, hg, h⟩ := h
    split at h
    · rename_i hc
      obtain ⟨hnd, hnm, hown⟩ := hc
      obtain ⟨hcs, hcag, hms, hlen⟩ := takeV_ok hR (evalO_ok hR x) ht hnd
      have hpr := evalO_ok hR p
      rw [hp, VR_pt] at hpr
      obtain ⟨r1, b, o0, hr1, hl, hpe⟩ := hpr
      rw [hσ] at hr1; cases hr1
      have hsz : (sizeOf t).run P w = .ok i.size w := run_sizeOf (hT t i hi) w
      have hvl : (a.eval x).cells.size = i.size := by
        have := RVs_length _ _ _ hcs
        simp at this; rw [this, hlen]; exact (hT t i hi).len
      have hdisj : ∀ y, (∃ m ∈ ms, S m y) → ¬ S n y := by
        rintro y ⟨m, hm, hy⟩ hy'
        obtain ⟨t', ht'⟩ := hms m hm
        exact hR.sdis m n _ r y ht' hσ (fun e => hnm (e ▸ hm)) hy hy'
      have hSX : ∀ y, S n y ∨ (∃ m ∈ ms, S m y) → ¬ fr.X y := by
        rintro y (hy | ⟨m, hm, hy⟩)
        · exact fun hx => (hR.sout n r y hσ hy).2.1 (hR.xy y hx)
        · obtain ⟨t', ht'⟩ := hms m hm; exact fun hx => (hR.sout m _ y ht' hy).2.1 (hR.xy y hx)
      have h' : node.isAg = false → (if off = 0 ∧ q ≠ [] then (match cs with | [c] => some (st.upd n (r.put q c) ms (if node.isSc then [] else [q])) | _ => none) else none) = some st' := by
        intro ha; cases node <;> first | exact h | simp [PV.isAg] at ha
      by_cases hag : node.isAg = true
      · obtain ⟨all, rfl⟩ : ∃ all, node = .ag all := by cases node <;> simp_all [PV.isAg]
        clear h'
        simp only at h
        split at h
        · rename_i hle
          cases h
          obtain ⟨w', hrun, hSb, hoth, h1, h2, h3, h4, hRR, hLL, hGG⟩ := storeCs (P := P) cs (a.eval x).cells.toList off 0 w r (S n) (fun y => ∃ m ∈ ms, S m y) all (hR.rr n r hσ) hown hg hl (by omega) hcs hcag hdisj hSX
          simp only [Nat.add_zero] at hRR hLL hGG
          have key := hR.stored (qs := if ((all.drop off).take cs.length).all PV.isSc then [] else (List.range cs.length).map fun j => q ++ [off + j]) hσ hnm hms (hSb hle.2) hoth h1 h2 h3 h4 hRR ?_ ?_ (putCs_kind q cs off r)
          · simp only [Oper.wp, execOp, ho, Instr.storeAt, Instr.sureAddr, storeVar, hpe, Sem.run_bind, Sem.run_pure, Result.andThen_ok, hsz, hvl, ne_eq, not_true_eq_false, if_false, hrun, Oper.upon, hd]
            exact ⟨_, _, key⟩
          · intro p' y hy hq
            have hcond : ∀ j, off ≤ j → j < off + cs.length → ¬ Ext (q ++ [j]) p' := by
              intro j hj1 hj2
              split at hq
              · rename_i hsc
                have hj : all[j]? = some all[j] := List.getElem?_eq_getElem (by omega)
                have : all[j].isSc = true := by
                  rw [List.all_eq_true] at hsc
                  refine hsc _ (List.mem_of_getElem? (i := j - off) ?_)
                  rw [List.getElem?_take, if_pos (by omega), List.getElem?_drop, show off + (j - off) = j by omega]; exact hj
                cases hx : all[j] with
                | sc u => exact sc_no_ext (VRs_views.get_snoc q r.node all j (.sc u) hg (by rw [hj, hx])) (by simp) hy
                | _ => rw [hx] at this; simp [PV.isSc] at this
              · exact hq _ (List.mem_map.2 ⟨j - off, List.mem_range.2 (by omega), by rw [show off + (j - off) = j by omega]⟩)
            obtain ⟨q1, q2⟩ := hLL p' y hy hcond
            refine ⟨q1, fun f k es hgs hpre => q2 f k es hgs (fun j hj1 hj2 => ?_)⟩
            split at hpre
            · rename_i hsc
              have hj : all[j]? = some all[j] := List.getElem?_eq_getElem (by omega)
              have : all[j].isSc = true := by
                rw [List.all_eq_true] at hsc
                refine hsc _ (List.mem_of_getElem? (i := j - off) ?_)
                rw [List.getElem?_take, if_pos (by omega), List.getElem?_drop, show off + (j - off) = j by omega]; exact hj
              cases hx : all[j] with
              | sc u => exact sc_no_pre (VRs_views.get_snoc q r.node all j (.sc u) hg (by rw [hj, hx])) hgs
              | _ => rw [hx] at this; simp [PV.isSc] at this
            · exact hpre _ (List.mem_map.2 ⟨j - off, List.mem_range.2 (by omega), by rw [show off + (j - off) = j by omega]⟩)
          · intro p' f k es hgs hpre
            refine hGG p' f k es hgs (fun j hj1 hj2 => ?_)
            split at hpre
            · rename_i hsc
              have hj : all[j]? = some all[j] := List.getElem?_eq_getElem (by omega)
              have : all[j].isSc = true := by
                rw [List.all_eq_true] at hsc
                refine hsc _ (List.mem_of_getElem? (i := j - off) ?_)
                rw [List.getElem?_take, if_pos (by omega), List.getElem?_drop, show off + (j - off) = j by omega]; exact hj
              cases hx : all[j] with
              | sc u => exact sc_no_pre (VRs_views.get_snoc q r.node all j (.sc u) hg (by rw [hj, hx])) hgs
              | _ => rw [hx] at this; simp [PV.isSc] at this
            · exact hpre _ (List.mem_map.2 ⟨j - off, List.mem_range.2 (by omega), by rw [show off + (j - off) = j by omega]⟩)
        · cases h
      · have ha : node.isAg = false := by simpa using hag
        have h2 := h' ha
        clear h' h
        split at h2
        · rename_i hq
          obtain ⟨rfl, hq⟩ := hq
          split at h2
          · rename_i _ c
            cases h2
            obtain ⟨u, vs', S1, S2, hue, hsep, hu1, hru, hru2⟩ := hcs
            simp only [RVs] at hru2; subst hru2
            obtain ⟨hrun, hSb, hRR, hL⟩ := store1 (P := P) (hR.rr n r hσ) hq hown hg ha hl (RV_mono hsep.1 hru) (hcag c (by simp)) hu1 hdisj (fun y hy => hSX y (.inl hy))
            have hcell : (a.eval x).cells.toList = [u] := hue
            have hput : (r.put q c).node = r.node.set q c := Root.node_put hq
            have hsc : node.isSc = true → ∃ y, r.node.get q = some (.sc y) := by
              intro hh; cases node <;> first | exact ⟨_, hg⟩ | simp [PV.isSc] at hh
            have key := hR.stored (w' := w.setCell ⟨b, o0, none⟩ u) (qs := if node.isSc then [] else [q]) hσ hnm hms hSb (fun y hy => Below.heap_setCell w _ _ y hy) rfl ⟨rfl, Nat.le_refl _⟩ rfl (by simp) hRR ?_ ?_ (put_kind hq)
            · simp only [Oper.wp, execOp, ho, Instr.storeAt, Instr.sureAddr, storeVar, hpe, Sem.run_bind, Sem.run_pure, Result.andThen_ok, hsz, hvl, ne_eq, not_true_eq_false, if_false, hcell, storeCells, add_none, Nat.add_zero, hrun, Oper.upon, hd]
              exact ⟨_, _, key⟩
            · intro p' y hy hqs
              have hne : ¬ Ext q p' := by
                split at hqs
                · rename_i hh; obtain ⟨y', hy'⟩ := hsc hh; exact sc_no_ext hy' hq hy
                · exact hqs q (by simp)
              obtain ⟨q1, q2⟩ := hL p' y hy hne
              refine ⟨q1, fun f k es hgs hpre => q2 _ hgs rfl (fun e => ?_)⟩
              split at hpre
              · rename_i hh; obtain ⟨y', hy'⟩ := hsc hh; exact sc_no_pre hy' hgs (e ▸ List.prefix_refl _)
              · exact hpre q (by simp) (e ▸ List.prefix_refl _)
            · intro p' f k es hgs hpre
              rw [hput]
              refine PV.get_set_sl q p' r.node c f k es ?_ hgs
              split at hpre
              · rename_i hh; obtain ⟨y', hy'⟩ := hsc hh; exact sc_no_pre hy' hgs
              · exact hpre q (by simp)
          · cases h2
        · cases h2
    · cases h
  · cases h
end Go.Eng

set_option linter.unusedSimpArgs false
set_option linter.unusedVariables false
namespace Go.Eng
open Go.RowKit
variable {P : Program} {T : Nat → Option TI} {N : Nat}

mutual
def PV.cok : PV → Bool
  | .sc v => v.oneCell'
  | .sl _ _ _ => true
  | .ag cs => PV.coks cs
  | .xx => false
def PV.coks : List PV → Bool
  | [] => true
  | c :: cs => c.cok && PV.coks cs
end
def PV.flat1 : PV → Bool
  | .sl f _ _ => f
  | .ag cs => cs.all fun c => match c with | .sl f _ _ => f | .ag _ => false | _ => true
  | _ => true

theorem oneCell_of {w Z c v S} (h : RV w Z c v S) (hc : c.cok = true) : v.oneCell' = true := by
  cases c with
  | sc u => rw [RV_sc] at h; subst h; exact hc
  | sl f k es =>
    cases f with
    | true => rw [RV_fz] at h; obtain ⟨A, cap, rfl, _⟩ := h; rfl
    | false => rw [RV_ow] at h; rcases h with ⟨rfl, _⟩ | ⟨b, cap, cur, ty, rfl, _⟩ <;> rfl
  | ag cs => rw [RV_ag] at h; exact h.elim
  | xx => simp [PV.cok] at hc

theorem RC_vals {w Z b} : ∀ (cs : List PV) (o : Nat) (S : Nat → Prop), RC w Z cs b o S → PV.coks cs = true → ∃ vs, (∀ j v, vs[j]? = some v → w.cell? ⟨b, o + j, none⟩ = some v) ∧ RVs w Z cs vs S
  | [], o, S, _, _ => ⟨[], by simp, rfl⟩
  | c :: cs, o, S, h, hk => by
    rw [RC_cons] at h
    simp only [PV.coks, Bool.and_eq_true] at hk
    obtain ⟨S1, S2, hsep, ⟨v, hv, hr⟩, h2⟩ := h
    obtain ⟨vs, hvs, hrs⟩ := RC_vals cs (o + 1) S2 h2 hk.2
    refine ⟨v :: vs, ?_, v, vs, S1, S2, rfl, hsep, oneCell_of hr hk.1, hr, hrs⟩
    intro j u hj
    cases j with
    | zero => simp at hj; subst hj; exact hv
    | succ j => simp at hj; have := hvs j u hj; rwa [show o + (j + 1) = o + 1 + j by omega]
theorem RVs_one {w Z} : ∀ (cs : List PV) (vs : List Value) (S : Nat → Prop), RVs w Z cs vs S → ∀ v ∈ vs, v.oneCell' = true
  | [], vs, S, h, v, hv => by simp [RVs] at h; simp [h] at hv
  | c :: cs, vs, S, h, v, hv => by
    obtain ⟨u, vs', S1, S2, rfl, hsep, ho, h1, h2⟩ := h
    rcases List.mem_cons.1 hv with rfl | hv
    · exact ho
    · exact RVs_one cs vs' S2 h2 v hv
def ELs (w : World) (Z : Nat → Prop) (k : Nat) (es : List PV) (vs : List Value) (S : Nat → Prop) : Prop :=
  vs.length = es.length * k ∧ (∀ v ∈ vs, v.oneCell' = true) ∧ ∀ w' b o, Agr w w' Z → Agr w w' S → (∀ j v, vs[j]? = some v → w'.cell? ⟨b, o + j, none⟩ = some v) → RE w' Z es b o k S
theorem RE_vals {w Z b k} : ∀ (es : List PV) (o : Nat) (S : Nat → Prop), RE w Z es b o k S → PV.coks es = true → ∃ vs, (∀ j v, vs[j]? = some v → w.cell? ⟨b, o + j, none⟩ = some v) ∧ ELs w Z k es vs S
  | [], o, S, _, _ => ⟨[], by simp, by simp, by simp, fun _ _ _ _ _ _ => by rw [RE_nil]; trivial⟩
  | e :: es, o, S, h, hk => by
    rw [RE_cons] at h
    simp only [PV.coks, Bool.and_eq_true] at hk
    obtain ⟨S1, S2, hsep, hn, h2⟩ := h
    obtain ⟨vs2, hv2, hl2, ho2, hc2⟩ := RE_vals es (o + k) S2 h2 hk.2
    -- the first element's cells
    have first : ∃ vs1 : List Value, (∀ (j : Nat) (v : Value), vs1[j]? = some v → w.cell? ⟨b, o + j, none⟩ = some v) ∧ vs1.length = k ∧ (∀ v ∈ vs1, v.oneCell' = true) ∧
        ∀ (w' : World) (b o : Nat), Agr w w' Z → Agr w w' S1 → (∀ (j : Nat) (v : Value), vs1[j]? = some v → w'.cell? ⟨b, o + j, none⟩ = some v) → RN w' Z e b o k S1 := by
      cases e with
      | ag cs =>
        obtain ⟨hlen, hRC⟩ := hn
        obtain ⟨vs, hv, hr⟩ := RC_vals cs o S1 hRC (by simpa [PV.cok] using hk.1)
        refine ⟨vs, hv, by rw [RVs_length _ _ _ hr, hlen], RVs_one _ _ _ hr, fun w' b' o' hz hs hc => ⟨hlen, RC_of_RVs cs vs o' S1 (RVs_congr hz cs vs S1 S1 hs (fun _ h => h) hr) hc⟩⟩
      | _ =>
        rw [RN_cell rfl] at hn
        obtain ⟨rfl, v, hv, hr⟩ := hn
        refine ⟨[v], ?_, rfl, by simpa using oneCell_of hr hk.1, ?_⟩
        · intro j u hj
          cases j with
          | zero => simp at hj; subst hj; exact hv
          | succ j => simp at hj
        · intro w' b' o' hz hs hc
          rw [RN_cell rfl]
          exact ⟨rfl, v, hc 0 v rfl, RV_congr hz (fun _ h => h) _ v S1 S1 hs (fun _ h => h) hr⟩
    obtain ⟨vs1, hv1, hl1, ho1, hc1⟩ := first
    refine ⟨vs1 ++ vs2, ?_, by simp [hl1, hl2, Nat.add_mul]; omega, ?_, ?_⟩
    · intro j v hj
      rw [List.getElem?_append] at hj
      split at hj
      · exact hv1 j v hj
      · have := hv2 _ v hj; rwa [show o + k + (j - vs1.length) = o + j by omega] at this
    · intro v hv; exact (List.mem_append.1 hv).elim (ho1 v) (ho2 v)
    · intro w' b' o' hz hs hc
      rw [RE_cons]
      refine ⟨S1, S2, hsep, hc1 w' b' o' hz (fun x h => hs x (hsep.1 x h)) (fun j v hj => hc j v ?_), hc2 w' b' (o' + k) hz (fun x h => hs x (hsep.2.1 x h)) (fun j v hj => ?_)⟩
      · rw [List.getElem?_append_left (by rcases Nat.lt_or_ge j vs1.length with h | h; exact h; simp [List.getElem?_eq_none h] at hj)]; exact hj
      · have := hc (k + j) v (by rw [List.getElem?_append_right (by omega), show k + j - vs1.length = j by omega]; exact hj)
        rwa [show o' + k + j = o' + (k + j) by omega]
theorem RE_append {w Z b k} : ∀ (es fs : List PV) (o : Nat) (S1 S2 : Nat → Prop), RE w Z es b o k S1 → RE w Z fs b (o + es.length * k) k S2 → (∀ x, S1 x → S2 x → False) → RE w Z (es ++ fs) b o k (fun x => S1 x ∨ S2 x)
  | [], fs, o, S1, S2, h1, h2, hd => by simpa using RE_mono (fun _ h => .inr h) h2
  | e :: es, fs, o, S1, S2, h1, h2, hd => by
    rw [RE_cons] at h1
    obtain ⟨T1, T2, hsep, hn, hr⟩ := h1
    rw [List.cons_append, RE_cons]
    refine ⟨T1, fun x => T2 x ∨ S2 x, ⟨fun x h => .inl (hsep.1 x h), fun x h => h.elim (fun h => .inl (hsep.2.1 x h)) .inr, fun x h h' => h'.elim (hsep.2.2 x h) (hd x (hsep.1 x h))⟩, hn, RE_append es fs (o + k) T2 S2 hr ?_ (fun x h => hd x (hsep.2.1 x h))⟩
    rw [List.length_cons, Nat.add_mul, Nat.one_mul] at h2
    rwa [show o + k + es.length * k = o + (es.length * k + k) by omega]
theorem RE_flat {w Z b k} : ∀ (es : List PV) (o : Nat) (S : Nat → Prop), RE w Z es b o k S → es.all PV.flat1 = true → RE w Z es b o k (fun _ => False)
  | [], o, S, _, _ => by rw [RE_nil]; trivial
  | e :: es, o, S, h, hf => by
    rw [RE_cons] at h ⊢
    simp only [List.all_cons, Bool.and_eq_true] at hf
    obtain ⟨S1, S2, hsep, hn, h2⟩ := h
    refine ⟨fun _ => False, fun _ => False, ⟨fun _ h => h, fun _ h => h, fun _ h _ => h⟩, ?_, RE_flat es (o + k) S2 h2 hf.2⟩
    cases e with
    | ag cs =>
      refine ⟨hn.1, ?_⟩
      have hf1 := hf.1
      simp only [PV.flat1] at hf1
      clear hf
      have key : ∀ (cs : List PV) (o : Nat) (S : Nat → Prop), RC w Z cs b o S → (cs.all fun c => match c with | .sl f _ _ => f | .ag _ => false | _ => true) = true → RC w Z cs b o (fun _ => False) := by
        intro cs
        induction cs with
        | nil => intro o S _ _; rw [RC_nil]; trivial
        | cons c cs ih =>
          intro o S h hf
          rw [RC_cons] at h ⊢
          obtain ⟨S1, S2, hsep, ⟨v, hv, hr⟩, h2⟩ := h
          simp only [List.all_cons, Bool.and_eq_true] at hf
          refine ⟨fun _ => False, fun _ => False, ⟨fun _ h => h, fun _ h => h, fun _ h _ => h⟩, ⟨v, hv, ?_⟩, ih _ S2 h2 hf.2⟩
          cases c with
          | sc u => rw [RV_sc] at *; exact hr
          | xx => rw [RV_xx]; trivial
          | ag _ => simp at hf
          | sl f k' es' => simp at hf; obtain ⟨rfl, _⟩ := hf; rw [RV_fz] at *; exact hr
      exact key cs o S1 hn.2 hf1
    | sc u => rw [RN_cell rfl] at *; obtain ⟨h1, v, hv, hr⟩ := hn; exact ⟨h1, v, hv, by rw [RV_sc] at *; exact hr⟩
    | xx => rw [RN_cell rfl] at *; obtain ⟨h1, v, hv, hr⟩ := hn; exact ⟨h1, v, hv, by rw [RV_xx]; trivial⟩
    | sl f k' es' =>
      have : f = true := by simpa [PV.flat1] using hf.1
      subst this
      rw [RN_cell rfl] at *; obtain ⟨h1, v, hv, hr⟩ := hn; exact ⟨h1, v, hv, by rw [RV_fz] at *; exact hr⟩

theorem run_append_gen {w : World} {Z S Sx : Nat → Prop} {t t2 e ty k bytes : Nat} {i : TypeInfo} {z : Value} (ht : P.underlying t = some (.slice e)) (ht2 : ∃ e2, P.underlying t2 = some (.slice e2)) (hi : P.info? e = some i) (hz : i.zero = some z)
    (hsize : i.size = k) (hby : i.bytes = bytes) (hzs : z.cells.size = k) {es xs : List PV} {v : Value} (hv : RV w Z (.sl false k es) v S) {A : Option Addr} {c : Nat} {news : List Value}
    (hx : ELs w Z k xs news Sx) (hfirst : ∀ w', w'.heap = w.heap → (Builtin.firstCells k xs.length (.slice A xs.length c)).run P w' = .ok news.toArray w') (hd : ∀ x, Sx x → ¬ S x) (hSZ : ∀ x, S x → ¬ Z x)
    (hlt : ∀ x, S x ∨ Sx x ∨ Z x → x < w.heap.size) (hbytes : (es.length + xs.length) * bytes ≤ 140737488355328) (h63 : es.length + xs.length ≤ 4611686018427387904) (hcok : PV.coks es = true) :
    ∃ v' w', (Builtin.append_ #[t, t2] ty #[v, .slice A xs.length c]).run P w = .ok v' w' ∧ w'.os = w.os ∧ TD w w' ∧ w'.output = w.output ∧ w.heap.size ≤ w'.heap.size ∧
      (∀ b, b < w.heap.size → ¬ S b → w'.heap[b]? = w.heap[b]?) ∧ RV w' Z (.sl false k (es ++ xs)) v' (fun x => S x ∨ Sx x ∨ (w.heap.size ≤ x ∧ x < w'.heap.size)) := by
  obtain ⟨e2, ht2⟩ := ht2
  obtain ⟨hnl, hno, hnc⟩ := hx
  have hz0 : ((match some t2 with
    | some xType => do pure ((← underlying xType) matches .int _)
    | none => pure false : Sem Bool)).run P w = .ok false w := by
    simp [run_underlying ht2]
  -- growing
  have grow : ∀ (base : Option Addr) (cap : Nat) (olds : List Value), cap < es.length + xs.length → (∀ w', w'.heap = w.heap → (Builtin.firstCells k es.length (.slice base es.length cap)).run P w' = .ok olds.toArray w') → ELs w Z k es olds S →
      v = .slice base es.length cap →
      ∃ v' w', (Builtin.append_ #[t, t2] ty #[v, .slice A xs.length c]).run P w = .ok v' w' ∧ w'.os = w.os ∧ TD w w' ∧ w'.output = w.output ∧ w.heap.size ≤ w'.heap.size ∧
      (∀ b, b < w.heap.size → ¬ S b → w'.heap[b]? = w.heap[b]?) ∧ RV w' Z (.sl false k (es ++ xs)) v' (fun x => S x ∨ Sx x ∨ (w.heap.size ≤ x ∧ x < w'.heap.size)) := by
    intro base cap olds hcap hfo hol hveq
    subst hveq
    have hn : ¬ (es.length + xs.length ≤ cap) := by omega
    have h63' : ¬ (9223372036854775807 < ((es.length : Int) + (xs.length : Int))) := by omega
    have hfit := growslice_fits (old := cap) (need := es.length + xs.length) hcap hbytes
    have h48' : ¬ (281474976710656 < Builtin.nextslicecap (es.length + xs.length) cap * i.bytes) := by rw [hby]; omega
    have hge := grownCap_ge w (es.length + xs.length) cap e
    have hfo' := hfo w.drew rfl
    have hfx' := hfirst w.drew rfl
    obtain ⟨ho1, ho2, ho3⟩ := hol
    refine ⟨.slice (some ⟨w.heap.size, 0, none⟩) (es.length + xs.length) (grownCap w (es.length + xs.length) cap e), w.drew.alloc (.cells (olds.toArray ++ news.toArray ++ Builtin.zeroCells z.cells (grownCap w (es.length + xs.length) cap e - (es.length + xs.length))) e), ?_, rfl, ⟨rfl, Nat.le_succ _⟩, rfl, by simp, fun b hb _ => heap_alloc_old (w := w.drew) b hb, ?_⟩
    · have hsz' : i.size = k := hsize
      simp [Builtin.append_, run_underlying ht, run_underlying ht2, sizeOf, typeInfo, zeroValue, hi, hz, Builtin.lenOf, hn, h63', h48', Question.forced, hsz', hfo', hfx', newRow, grownCap]
      rw [← List.append_toArray, Array.append_assoc]
    · rw [RV_ow]
      right
      refine ⟨w.heap.size, _, _, e, by rw [List.length_append], by rw [List.length_append]; exact hge, .inr (.inr ⟨Nat.le_refl _, by simp⟩), heap_alloc_new (w := w.drew), ?_, ?_⟩
      · simp only [Array.size_append, List.size_toArray, size_zeroCells, hzs, ho1, hnl, ← Nat.add_mul]
        congr 1; omega
      · have hcell : ∀ j u, (olds ++ news)[j]? = some u → (w.drew.alloc (.cells (olds.toArray ++ news.toArray ++ Builtin.zeroCells z.cells (grownCap w (es.length + xs.length) cap e - (es.length + xs.length))) e)).cell? ⟨w.heap.size, j, none⟩ = some u := by
          intro j u hj
          have := cell_alloc (w := w.drew) (ty := e) (arr := olds.toArray ++ news.toArray ++ Builtin.zeroCells z.cells (grownCap w (es.length + xs.length) cap e - (es.length + xs.length))) (j := j) (v := u) (by
            simp only [Array.toList_append]
            rw [List.getElem?_append_left (by
              rcases Nat.lt_or_ge j (olds ++ news).length with h | h
              · simpa using h
              · simp [List.getElem?_eq_none h] at hj)]
            exact hj)
          simpa using this
        have hZ : Agr w (w.drew.alloc (.cells (olds.toArray ++ news.toArray ++ Builtin.zeroCells z.cells (grownCap w (es.length + xs.length) cap e - (es.length + xs.length))) e)) Z := fun x hx => heap_alloc_old (w := w.drew) x (hlt x (.inr (.inr hx)))
        refine RE_mono (fun x hx => ?_) (RE_append es xs 0 S Sx (ho3 _ w.heap.size 0 hZ (fun x hx => heap_alloc_old (w := w.drew) x (hlt x (.inl hx))) (fun j u hj => ?_)) (hnc _ w.heap.size _ hZ (fun x hx => heap_alloc_old (w := w.drew) x (hlt x (.inr (.inl hx)))) (fun j u hj => ?_)) (fun x h1 h2 => hd x h2 h1))
        · rcases hx with hx | hx
          · exact ⟨.inl hx, fun e => by have := hlt x (.inl hx); omega⟩
          · exact ⟨.inr (.inl hx), fun e => by have := hlt x (.inr (.inl hx)); omega⟩
        · simpa using hcell j u (by rw [List.getElem?_append_left (by rcases Nat.lt_or_ge j olds.length with h | h; exact h; simp [List.getElem?_eq_none h] at hj)]; exact hj)
        · have := hcell (es.length * k + j) u (by rw [List.getElem?_append_right (by omega), ho1, show es.length * k + j - es.length * k = j by omega]; exact hj)
          simpa using this
  rw [RV_ow] at hv
  rcases hv with ⟨rfl, h0⟩ | ⟨b, cap, cur, ty', rfl, hcap, hb, hh, hsz, he⟩
  · have he0 : es = [] := List.length_eq_zero_iff.1 h0
    subst he0
    by_cases hx0 : xs.length = 0
    · have hxe : xs = [] := List.length_eq_zero_iff.1 hx0
      subst hxe
      have hn0 : news = [] := by simpa using hnl
      subst hn0
      have hf := hfirst w rfl
      simp only [List.length_nil] at hf ⊢
      refine ⟨.slice none 0 0, w, ?_, rfl, TD.refl, rfl, Nat.le_refl _, fun _ _ _ => rfl, by rw [RV_ow]; exact .inl ⟨rfl, by simp⟩⟩
      simp [Builtin.append_, run_underlying ht, run_underlying ht2, sizeOf, typeInfo, hi, Builtin.lenOf, hsize, hf]
    · exact grow none 0 [] (by simp; omega) (fun w' _ => by simp [Builtin.firstCells]) ⟨by simp, by simp, fun _ _ _ _ _ _ => by rw [RE_nil]; trivial⟩ rfl
  · by_cases hroom : es.length + xs.length ≤ cap
    · have hfx := hfirst w rfl
      have hfit : 0 + es.length * k + news.length ≤ cur.size := by rw [hnl, hsz, Nat.zero_add, ← Nat.add_mul]; exact Nat.mul_le_mul_right _ hroom
      have hst := run_storeCells_at P b (es.length * k) ty' news 0 cur w hh (by simpa using hfit) hno
      simp only [Nat.add_zero] at hst
      refine ⟨.slice (some ⟨b, 0, none⟩) (es.length + xs.length) cap, w.setRow b (cur.toList.take (es.length * k) ++ news ++ cur.toList.drop (es.length * k + news.length)).toArray, ?_, rfl, ⟨rfl, by simp⟩, rfl, by simp [World.setRow], fun x hx hS => setRow_other w b x _ (fun e => hS (e ▸ hb)), ?_⟩
      · have hsz' : i.size = k := hsize
        simp [Builtin.append_, run_underlying ht, run_underlying ht2, sizeOf, typeInfo, hi, Builtin.lenOf, hroom, hsz', hfx, Addr.add_lit, hst]
      · have hle : es.length * k + news.length ≤ cur.size := by omega
        have hnew : (w.setRow b (cur.toList.take (es.length * k) ++ news ++ cur.toList.drop (es.length * k + news.length)).toArray).heap[b]? = some (.cells (cur.toList.take (es.length * k) ++ news ++ cur.toList.drop (es.length * k + news.length)).toArray ty' (0, 0)) := setRow_heap w b cur _ ty' _ hh
        have hother : ∀ x, x ≠ b → (w.setRow b (cur.toList.take (es.length * k) ++ news ++ cur.toList.drop (es.length * k + news.length)).toArray).heap[x]? = w.heap[x]? := fun x hx => setRow_other w b x _ hx
        have hZ : Agr w (w.setRow b (cur.toList.take (es.length * k) ++ news ++ cur.toList.drop (es.length * k + news.length)).toArray) Z := fun x hx => hother x (fun e => hSZ b hb (e ▸ hx))
        rw [RV_ow]
        right
        refine ⟨b, cap, _, ty', by rw [List.length_append], by rw [List.length_append]; exact hroom, .inl hb, hnew, ?_, ?_⟩
        · simp only [List.size_toArray, List.length_append, List.length_take, List.length_drop, Array.length_toList]
          omega
        · refine RE_mono (fun x hx => ?_) (RE_append es xs 0 (fun x => S x ∧ x ≠ b) Sx (RE_congr hZ (fun _ h => h) es b 0 k _ _ (fun x hx => hother x hx.2) (fun _ h => h) (fun j h1 h2 => ?_) he) (hnc _ b _ hZ (fun x hx => hother x (fun e => hd b (e ▸ hx) hb)) (fun j u hj => ?_)) (fun x h1 h2 => hd x h2 h1.1))
          · rcases hx with hx | hx
            · exact ⟨.inl hx.1, hx.2⟩
            · exact ⟨.inr (.inl hx), fun e => hd b (e ▸ hx) hb⟩
          · simp only [World.cell?, hnew, hh, Option.isSome_none, Bool.false_eq_true, if_false]
            simp only [List.getElem?_toArray, List.append_assoc]
            rw [List.getElem?_append_left (by simp; omega), List.getElem?_take, if_pos (by omega)]
            simp
          · simp only [World.cell?, hnew, Option.isSome_none, Bool.false_eq_true, if_false]
            simp only [List.getElem?_toArray, List.append_assoc, Nat.zero_add]
            have t1 : (cur.toList.take (es.length * k)).length = es.length * k := by simp; omega
            rw [List.getElem?_append_right (by omega), t1, List.getElem?_append_left (by
              rcases Nat.lt_or_ge j news.length with h | h
              · omega
              · simp [List.getElem?_eq_none h] at hj), show es.length * k + j - es.length * k = j by omega]
            exact hj
    · obtain ⟨olds, hv, hol⟩ := RE_vals es 0 (fun x => S x ∧ x ≠ b) he hcok
      obtain ⟨ho1, ho2, ho3⟩ := hol
      refine grow (some ⟨b, 0, none⟩) cap olds (by omega) ?_ ⟨ho1, ho2, fun w' b' o' h1 h2 h3 => RE_mono (fun x h => h.1) (ho3 w' b' o' h1 (fun x h => h2 x h.1) h3)⟩ rfl
      intro w' hw'
      exact run_firstCells_some w' k es.length ⟨b, 0, none⟩ es.length cap olds ho1 (fun j u hj => by
        rw [add_none]
        have := hv j u hj
        rw [World.cell?_of_block (w := w) (w' := w') (by rw [hw'])]; exact this)
end Go.Eng

set_option linter.unusedSimpArgs false
set_option linter.unusedVariables false
namespace Go.Eng
open Go.RowKit
variable {P : Program} {T : Nat → Option TI} {N : Nat}

def xsV (st : St) (k : Nat) : V → Option (List PV × List Nat)
  | .nl => some ([], [])
  | .c (.sl true k' xs) => if k' = k ∧ PV.coks xs = true then some (xs, []) else none
  | .rf m q => (st.σ m).bind fun r => match r.node.get q with
      | some (.sl false k' xs) => if k' = k ∧ PV.coks xs = true then (if xs.all PV.flat1 = true then some (xs, []) else if q = [] then some (xs, [m]) else none) else none
      | _ => none
  | .rn m q (.sub lo hi k2) => (st.σ m).bind fun r => match r.node.get q with
      | some (.sl false k' xs) => if k' = k ∧ k2 = k ∧ PV.coks ((xs.drop lo).take (hi - lo)) = true ∧ xs.all PV.flat1 = true then some ((xs.drop lo).take (hi - lo), []) else none
      | _ => none
  | _ => none
theorem xsV_ok {fr S rv st a w} (h : Rel0 fr S rv st a w) {k : Nat} {x : V} {v : Value} {xs ms} (hx : VR w fr.X st.σ rv x v) (he : xsV st k x = some (xs, ms)) :
    ∃ A c news, v = .slice A xs.length c ∧ ELs w fr.X k xs news (fun b => ∃ n ∈ ms, S n b) ∧ (∀ w', w'.heap = w.heap → (Builtin.firstCells k xs.length (.slice A xs.length c)).run P w' = .ok news.toArray w') ∧
      (∀ n ∈ ms, ∃ t, st.σ n = some (.sv t)) ∧ ms.Nodup := by
  have fromRE : ∀ (b o cap : Nat) (xs : List PV) (S' : Nat → Prop), RE w fr.X xs b o k S' → PV.coks xs = true → ∃ news, ELs w fr.X k xs news S' ∧ ∀ w', w'.heap = w.heap → (Builtin.firstCells k xs.length (.slice (some ⟨b, o, none⟩) xs.length cap)).run P w' = .ok news.toArray w' := by
    intro b o cap xs S' hre hck
    obtain ⟨news, hv, hl⟩ := RE_vals xs o S' hre hck
    refine ⟨news, hl, fun w' hw' => run_firstCells_some w' k xs.length ⟨b, o, none⟩ xs.length cap news hl.1 (fun j u hj => ?_)⟩
    rw [add_none, World.cell?_of_block (w := w) (w' := w') (by rw [hw'])]; exact hv j u hj
  have none_ : ∀ (S' : Nat → Prop), ELs w fr.X k [] [] S' := fun S' => ⟨by simp, by simp, fun _ _ _ _ _ _ => by rw [RE_nil]; trivial⟩
  unfold xsV at he
  split at he
  · cases he
    rw [VR_nl] at hx; subst hx
    exact ⟨none, 0, [], rfl, none_ _, fun w' _ => by simp [Builtin.firstCells], by simp, by simp⟩
  · rename_i k' xs'
    split at he
    · rename_i hc
      cases he
      obtain ⟨rfl, hck⟩ := hc
      rw [VR_c, RV_fz] at hx
      obtain ⟨A, cap, rfl, hcap, hr⟩ := hx
      rcases hr with h0 | ⟨b, o, rfl, hb, hre⟩
      · have := List.length_eq_zero_iff.1 h0
        subst this
        refine ⟨A, cap, [], rfl, none_ _, fun w' _ => ?_, by simp, by simp⟩
        cases A <;> simp [Builtin.firstCells, loadCells, loadCellsFrom]
      · obtain ⟨news, h1, h2⟩ := fromRE b o cap _ (fun b => ∃ n ∈ ([] : List Nat), S n b) (RE_mono (S := fun _ => False) (fun _ h => h.elim) hre) hck
        exact ⟨_, cap, news, rfl, h1, h2, by simp, by simp⟩
    · cases he
  · rename_i m q
    simp only [Option.bind_eq_some_iff] at he
    obtain ⟨r, hσ, he⟩ := he
    split at he
    · rename_i k' xs' hg
      split at he
      · rename_i hc
        obtain ⟨rfl, hck⟩ := hc
        rw [VR_rf] at hx
        obtain ⟨r1, hr1, hat, _⟩ := hx
        rw [hσ] at hr1; cases hr1
        obtain ⟨S', hr, hsub⟩ := rAt_slice (h.rr m r hσ) hg hat
        rw [RV_ow] at hr
        split at he
        · rename_i hfl
          cases he
          rcases hr with ⟨rfl, h0⟩ | ⟨b, cap, cur, ty, rfl, hcap, hb, hh, hsz, hre⟩
          · have := List.length_eq_zero_iff.1 h0
            subst this
            exact ⟨none, 0, [], rfl, none_ _, fun w' _ => by simp [Builtin.firstCells], by simp, by simp⟩
          · obtain ⟨news, h1, h2⟩ := fromRE b 0 cap _ (fun b => ∃ n ∈ ([] : List Nat), S n b) (RE_mono (S := fun _ => False) (fun _ h => h.elim) (RE_flat _ 0 _ hre hfl)) hck
            exact ⟨_, cap, news, rfl, h1, h2, by simp, by simp⟩
        · split at he
          · rename_i hq
            cases he; subst hq
            have hkind : ∃ t, r = .sv t := by
              cases r with
              | bx cs => simp [Root.node, PV.get] at hg
              | sv t => exact ⟨t, rfl⟩
            obtain ⟨t, rfl⟩ := hkind
            have hms : ∀ n ∈ [m], ∃ t, st.σ n = some (.sv t) := by simp [hσ]
            rcases hr with ⟨rfl, h0⟩ | ⟨b, cap, cur, ty, rfl, hcap, hb, hh, hsz, hre⟩
            · have := List.length_eq_zero_iff.1 h0
              subst this
              exact ⟨none, 0, [], rfl, none_ _, fun w' _ => by simp [Builtin.firstCells], hms, by simp⟩
            · obtain ⟨news, h1, h2⟩ := fromRE b 0 cap _ (fun b => ∃ n ∈ [m], S n b) (RE_mono (fun x hx => ⟨m, by simp, hsub x hx.1⟩) hre) hck
              exact ⟨_, cap, news, rfl, h1, h2, hms, by simp⟩
          · cases he
      · cases he
    · cases he
  · rename_i m q lo hi k2
    simp only [Option.bind_eq_some_iff] at he
    obtain ⟨r, hσ, he⟩ := he
    split at he
    · rename_i k' xs' hg
      split at he
      · rename_i hc
        obtain ⟨rfl, rfl, hck, hfl⟩ := hc
        cases he
        rw [VR_rn] at hx
        obtain ⟨u, hu, A, nn, cap, rfl, hnc, hlh, hhn, hv⟩ := hx
        rw [VR_rf] at hu
        obtain ⟨r1, hr1, hat, _⟩ := hu
        rw [hσ] at hr1; cases hr1
        obtain ⟨S', hr, hsub⟩ := rAt_slice (h.rr m r hσ) hg hat
        rw [RV_ow] at hr
        rcases hr with ⟨h1, h0⟩ | ⟨b, cap', cur, ty, h1, hcap, hb, hh, hsz, hre⟩
        · cases h1
          have hx0 := List.length_eq_zero_iff.1 h0
          subst hx0
          obtain rfl : hi = 0 := by omega
          obtain rfl : lo = 0 := by omega
          refine ⟨none, 0, [], by rw [hv]; simp, none_ _, fun w' _ => by simp [Builtin.firstCells], by simp, by simp⟩
        · cases h1
          have hre2 := RE_take (hi - lo) _ b _ _ (RE_drop lo xs' b 0 (RE_flat _ 0 _ hre hfl) (by omega))
          have hlen : ((xs'.drop lo).take (hi - lo)).length = hi - lo := by simp; omega
          by_cases hcl : cap = lo
          · have hh0 : hi - lo = 0 := by omega
            rw [if_pos hcl, hh0] at hv
            rw [hh0] at hlen ⊢
            simp only [List.take_zero]
            refine ⟨some ⟨b, 0, none⟩, cap - lo, [], by rw [hv]; rfl, none_ _, fun w' _ => by simp [Builtin.firstCells, loadCells, loadCellsFrom], by simp, by simp⟩
          · rw [if_neg hcl] at hv
            obtain ⟨news, g1, g2⟩ := fromRE b (0 + lo * k2) (cap - lo) _ (fun b => ∃ n ∈ ([] : List Nat), S n b) (RE_mono (fun _ h => h.elim) hre2) hck
            exact ⟨some ⟨b, 0 + lo * k2, none⟩, cap - lo, news, by rw [hv, hlen]; simp [Addr.add]; exact fun e => e.symm, g1, g2, by simp, by simp⟩
      · cases he
    · cases he
  · cases he

theorem Rel0.consume {N fr S rv st a w} (hf : FrOK P N fr) (h : Rel0 fr S rv st a w) {w' : World} {d : Nat} {r : Root} {v : Value} {ms : List Nat} {S1 : Nat → Prop}
    (hos : w'.os = w.os) (htape : TD w w') (hout : w'.output = w.output) (hsz : w.heap.size ≤ w'.heap.size) (hall : ∀ b, b < w.heap.size → (∀ n ∈ ms, ¬ S n b) → w'.heap[b]? = w.heap[b]?)
    (hd : st.σ d = none ∨ d ∈ ms) (hms : ∀ n ∈ ms, ∃ r, st.σ n = some r) (hr : RR w' fr.X r v S1) (hS1 : ∀ b, S1 b → (w.heap.size ≤ b ∧ b < w'.heap.size) ∨ ∃ n ∈ ms, S n b) (hr0 : fr.rv0 d = none) :
    ∃ S' rv', Rel0 fr S' rv' ((st.move ms).new d r) a w' ∧ rv' d = v := by
  have hlt : ∀ n r b, st.σ n = some r → S n b → b < w.heap.size := fun n r b hn hb => (h.sout n r b hn hb).1
  refine ⟨fun n => if n = d then S1 else S n, fun n => if n = d then v else rv n, ?_, by simp⟩
  exact h.change (w' := w') (σ' := fun n => if n = d then some r else if n ∈ ms then none else st.σ n) (S' := fun n => if n = d then S1 else S n) (rv' := fun n => if n = d then v else rv n) (fun n => n = d ∨ n ∈ ms)
    hos htape hout hsz (fun b hb => hall b (Nat.lt_of_lt_of_le (h.xlt b hb) h.size) (fun n hn hS => by obtain ⟨r', hr'⟩ := hms n hn; exact (h.sout n r' b hr' hS).2.1 hb))
    (fun n r hc hn b hb => hall b (hlt n r b hn hb) (fun m hm hS => by obtain ⟨r', hr'⟩ := hms m hm; exact h.sdis n m r r' b hn hr' (fun e => hc (.inr (e ▸ hm))) hb hS))
    (fun n hc => by simp only [not_or] at hc; simp [hc.1, hc.2]) (fun n hc => by simp only [not_or] at hc; simp [hc.1]) (fun n hc => by simp only [not_or] at hc; simp [hc.1])
    (fun n r' hc hr' => by
      by_cases e : n = d
      · subst e; simp only [if_true, Option.some.injEq] at hr'; subst hr'; simpa using hr
      · have := hc.resolve_left e; simp [e, this] at hr')
    (fun n r' b hc hr' hb => by
      by_cases e : n = d
      · subst e
        simp only [if_true] at hb
        rcases hS1 b hb with hh | ⟨m, hm, hb⟩
        · exact .inl hh
        · obtain ⟨r2, hr2⟩ := hms m hm; exact .inr ⟨m, r2, .inr hm, hr2, hb⟩
      · have := hc.resolve_left e; simp [e, this] at hr')
    (fun n m r1 r2 b hc hc' h1 h2 hne _ _ => by
      by_cases e : n = d
      · by_cases e' : m = d
        · exact hne (e.trans e'.symm)
        · have := hc'.resolve_left e'; simp [e', this] at h2
      · have := hc.resolve_left e; simp [e, this] at h1)
    (fun n r' v' hc hr' hv' => by
      by_cases e : n = d
      · subst e; rw [hr0] at hv'; cases hv'
      · have := hc.resolve_left e; simp [e, this] at hr')
    (kill ms) (kill ms)
    (fun n p v' hc hv' => by
      by_cases e : n ∈ ms
      · simp [kill, e]
      · have e' := hc.resolve_right e
        subst e'
        rw [VR_rf] at hv'
        obtain ⟨r', hr', _⟩ := hv'
        rw [hd.resolve_right e] at hr'; cases hr')
    (fun n p o v' hc hv' => by
      by_cases e : n ∈ ms
      · simp [kill, e]
      · have e' := hc.resolve_right e
        subst e'
        rw [VR_pt] at hv'
        obtain ⟨r', b, o', hr', _⟩ := hv'
        rw [hd.resolve_right e] at hr'; cases hr')
    (fun n p hc => by simp only [not_or] at hc; simp [kill, hc.2]) (fun n p hc => by simp only [not_or] at hc; simp [kill, hc.2])

theorem Rel0.takeOut {N fr S rv st a w} (hf : FrOK P N fr) (h : Rel0 fr S rv st a w) {w' : World} {d n : Nat} {r r' : Root} {p : List Nat} {c : PV} {v : Value} {ms : List Nat} {S1 S2 Sd : Nat → Prop}
    (hσ : st.σ n = some r) (hg : r.node.get p = some c) (hca : c.isAg = false) (hp : p ≠ [])
    (hos : w'.os = w.os) (htape : TD w w') (hout : w'.output = w.output) (hsz : w.heap.size ≤ w'.heap.size) (hall : ∀ b, b < w.heap.size → ¬ S1 b → (∀ n ∈ ms, ¬ S n b) → w'.heap[b]? = w.heap[b]?)
    (hd : st.σ d = none) (hdn : d ≠ n) (hnm : n ∉ ms) (hms : ∀ n ∈ ms, ∃ r, st.σ n = some r) (hsep : Sep (S n) S1 S2)
    (hR : RR w' fr.X (r.put p .xx) (rv n) S2)
    (hL : ∀ p' x, rLoc w r (rv n) p' = some x → ¬ Ext p p' → rLoc w' (r.put p .xx) (rv n) p' = some x ∧
          (∀ m, r.node.get p' = some m → m.isAg = false → w'.cell? ⟨x.1, x.2, none⟩ = w.cell? ⟨x.1, x.2, none⟩))
    (hr : RR w' fr.X r' v Sd) (hSd : ∀ b, Sd b → (w.heap.size ≤ b ∧ b < w'.heap.size) ∨ S1 b ∨ ∃ n ∈ ms, S n b) (hr0 : fr.rv0 d = none) :
    ∃ S' rv', Rel0 fr S' rv' ((st.upd n (r.put p .xx) ms [p]).new d r') a w' ∧ rv' d = v := by
  have hlt : ∀ n r b, st.σ n = some r → S n b → b < w.heap.size := fun n r b hn hb => (h.sout n r b hn hb).1
  refine ⟨fun m => if m = d then Sd else if m = n then S2 else S m, fun m => if m = d then v else rv m, ?_, by simp⟩
  have hset : ∀ p' f k es, r.node.get p' = some (.sl f k es) → ¬ p <+: p' → ∃ es', (r.put p .xx).node.get p' = some (.sl f k es') := by
    intro p' f k es hg' hnp
    rw [Root.node_put hp]
    exact PV.get_set_sl p p' r.node .xx f k es hnp hg'
  have hkind := put_kind (r := r) (c := .xx) hp
  refine h.change (w' := w') (σ' := fun m => if m = d then some r' else if m = n then some (r.put p .xx) else if m ∈ ms then none else st.σ m) (S' := fun m => if m = d then Sd else if m = n then S2 else S m) (rv' := fun m => if m = d then v else rv m) (fun m => m = d ∨ m = n ∨ m ∈ ms)
    hos htape hout hsz ?_ ?_ ?_ ?_ ?_ ?_ ?_ ?_ ?_ (killP n ms [p]) (killQ n ms [p]) ?_ ?_ ?_ ?_
  · intro b hb
    refine hall b (Nat.lt_of_lt_of_le (h.xlt b hb) h.size) (fun hS => (h.sout n r b hσ (hsep.1 b hS)).2.1 hb) (fun m hm hS => ?_)
    obtain ⟨r', hr'⟩ := hms m hm; exact (h.sout m r' b hr' hS).2.1 hb
  · intro m r1 hc hr1 b hb
    simp only [not_or] at hc
    refine hall b (hlt m r1 b hr1 hb) (fun hS => h.sdis m n r1 r b hr1 hσ hc.2.1 hb (hsep.1 b hS)) (fun m' hm' hS => ?_)
    obtain ⟨r', hr'⟩ := hms m' hm'; exact h.sdis m m' r1 r' b hr1 hr' (fun e => hc.2.2 (e ▸ hm')) hb hS
  · intro m hc; simp only [not_or] at hc; simp [hc.1, hc.2.1, hc.2.2]
  · intro m hc; simp only [not_or] at hc; simp [hc.1, hc.2.1]
  · intro m hc; simp only [not_or] at hc; simp [hc.1]
  · intro m r1 hc hr1
    by_cases e : m = d
    · subst e; simp only [if_true, Option.some.injEq] at hr1; subst hr1; simpa using hr
    · by_cases e2 : m = n
      · subst e2; simp only [e, if_false, if_true, Option.some.injEq] at hr1; subst hr1; simpa [e] using hR
      · have := (hc.resolve_left e).resolve_left e2; simp [e, e2, this] at hr1
  · intro m r1 b hc hr1 hb
    by_cases e : m = d
    · subst e
      simp only [if_true] at hb
      rcases hSd b hb with hh | hh | ⟨m', hm', hb⟩
      · exact .inl hh
      · exact .inr ⟨n, r, .inr (.inl rfl), hσ, hsep.1 b hh⟩
      · obtain ⟨r2, hr2⟩ := hms m' hm'; exact .inr ⟨m', r2, .inr (.inr hm'), hr2, hb⟩
    · by_cases e2 : m = n
      · subst e2; simp only [e, if_false, if_true] at hb; exact .inr ⟨m, r, .inr (.inl rfl), hσ, hsep.2.1 b hb⟩
      · have := (hc.resolve_left e).resolve_left e2; simp [e, e2, this] at hr1
  · have mixed : ∀ b, Sd b → S2 b → False := by
      intro b h1 h2
      rcases hSd b h1 with hh | hh | ⟨m', hm', hb⟩
      · have := hlt n r b hσ (hsep.2.1 b h2); omega
      · exact hsep.2.2 b hh h2
      · obtain ⟨r2, hr2⟩ := hms m' hm'; exact h.sdis m' n r2 r b hr2 hσ (fun e => hnm (e ▸ hm')) hb (hsep.2.1 b h2)
    intro m1 m2 r1 r2 b hc1 hc2 h1 h2 hne hb1 hb2
    by_cases e1 : m1 = d
    · subst e1
      by_cases e2 : m2 = m1
      · exact hne e2.symm
      · by_cases e3 : m2 = n
        · subst e3; simp only [e2, if_false, if_true] at hb1 hb2; exact mixed b hb1 hb2
        · have := (hc2.resolve_left e2).resolve_left e3; simp [e2, e3, this] at h2
    · by_cases e1n : m1 = n
      · subst e1n
        by_cases e2 : m2 = d
        · subst e2; simp only [e1, if_false, if_true] at hb1 hb2; exact mixed b hb2 hb1
        · by_cases e3 : m2 = m1
          · exact hne e3.symm
          · have := (hc2.resolve_left e2).resolve_left e3; simp [e2, e3, this] at h2
      · have := (hc1.resolve_left e1).resolve_left e1n; simp [e1, e1n, this] at h1
  · intro m r1 v' hc hr1 hv'
    by_cases e : m = d
    · subst e; rw [hr0] at hv'; cases hv'
    · by_cases e2 : m = n
      · subst e2; simp only [e, if_false]; exact h.rv0 m r v' hσ hv'
      · have := (hc.resolve_left e).resolve_left e2; simp [e, e2, this] at hr1
  · intro m q v' hc hv'
    unfold killP
    by_cases hm : m ∈ ms
    · simp [hm]
    · by_cases e2 : m = n
      · subst e2
        simp only [hm, if_false, true_and]
        split
        · rename_i hq; split at hq
          · cases hq
          · rename_i hne
            simp only [Option.some.injEq, Prod.mk.injEq] at hq
            obtain ⟨rfl, rfl⟩ := hq
            have hnp : ¬ p <+: q := fun hp' => hne (by simp [pre_iff.2 hp'])
            rw [VR_rf] at hv' ⊢
            obtain ⟨r1, hr1, hat, f, k, es, hg'⟩ := hv'
            rw [hσ] at hr1; cases hr1
            obtain ⟨es', hg''⟩ := hset q f k es hg' hnp
            refine ⟨r.put p .xx, by simp [Ne.symm hdn], ?_, f, k, es', hg''⟩
            simp only [if_neg (Ne.symm hdn)]
            by_cases hp0 : q = [] ∧ ∃ t, r = .sv t
            · obtain ⟨rfl, t, rfl⟩ := hp0
              obtain ⟨t', ht'⟩ := hkind.1 ⟨t, rfl⟩
              rw [ht']
              simpa [rAt] using hat
            · have hl : ∃ x, rLoc w r (rv m) q = some x ∧ w.cell? ⟨x.1, x.2, none⟩ = some v' := by
                cases r with
                | bx cs => simpa [rAt, Option.bind_eq_some_iff] using hat
                | sv t =>
                  cases q with
                  | nil => exact absurd ⟨rfl, t, rfl⟩ hp0
                  | cons i q => simpa [rAt, Option.bind_eq_some_iff] using hat
              obtain ⟨x, hl, hx⟩ := hl
              obtain ⟨h1, h2⟩ := hL q x hl (fun he => hnp he.1)
              rw [rAt_of_rLoc h1, h2 _ hg' rfl]; exact hx
        · trivial
      · have e' := (hc.imp id (fun h => h.resolve_left e2)).resolve_right hm
        subst e'
        rw [VR_rf] at hv'
        obtain ⟨r1, hr1, _⟩ := hv'
        rw [hd] at hr1; cases hr1
  · intro m q o v' hc hv'
    unfold killQ
    by_cases hm : m ∈ ms
    · simp [hm]
    · by_cases e2 : m = n
      · subst e2
        simp only [hm, if_false, true_and]
        split
        · rename_i hq; split at hq
          · cases hq
          · rename_i hne
            simp only [Option.some.injEq, Prod.mk.injEq] at hq
            obtain ⟨rfl, rfl⟩ := hq
            rw [VR_pt] at hv' ⊢
            obtain ⟨r1, b1, o1, hr1, hl, rfl⟩ := hv'
            rw [hσ] at hr1; cases hr1
            refine ⟨r.put p .xx, b1, o1, by simp [Ne.symm hdn], ?_, rfl⟩
            simp only [if_neg (Ne.symm hdn)]
            exact (hL q _ hl (fun he => hne (by simp [ext_iff.2 he]))).1
        · trivial
      · have e' := (hc.imp id (fun h => h.resolve_left e2)).resolve_right hm
        subst e'
        rw [VR_pt] at hv'
        obtain ⟨r1, b, o', hr1, _⟩ := hv'
        rw [hd] at hr1; cases hr1
  · intro m q hc; simp only [not_or] at hc; simp [killP, hc.2.1, hc.2.2]
  · intro m q hc; simp only [not_or] at hc; simp [killQ, hc.2.1, hc.2.2]

def appSt (T : Nat → Option TI) (N : Nat) (st : St) (t t2 : Nat) (s x : V) (d : Nat) : Option St :=
  (T t).bind fun i => (T t2).bind fun i2 => match i.kd, i2.kd with
    | .sl e k b, .sl _ _ _ => (T e).bind fun ie => (xsV st k x).bind fun q => match s with
        | .nl => if d < N ∧ st.σ (rootName d) = none ∧ q.1.length * b ≤ 140737488355328 ∧ q.1.length ≤ 4611686018427387904 then
            some (((st.move q.2).new (rootName d) (.sv (.sl false k q.1))).put (some d) (.rf (rootName d) [])) else none
        | .rf n [] => (st.σ n).bind fun r => match r with
            | .sv (.sl false k' es) => if k' = k ∧ PV.coks es = true ∧ n ∉ q.2 ∧ d < N ∧ (st.σ (rootName d) = none ∨ rootName d = n) ∧ (es.length + q.1.length) * b ≤ 140737488355328 ∧ es.length + q.1.length ≤ 4611686018427387904 then
                some (((st.move (n :: q.2)).new (rootName d) (.sv (.sl false k (es ++ q.1)))).put (some d) (.rf (rootName d) [])) else none
            | _ => none
        | .rf n (j :: p) => (st.σ n).bind fun r => match r.node.get (j :: p) with
            | some (.sl false k' es) => if k' = k ∧ PV.coks es = true ∧ n ∉ q.2 ∧ d < N ∧ st.σ (rootName d) = none ∧ r.node.own (j :: p) = true ∧ (es.length + q.1.length) * b ≤ 140737488355328 ∧ es.length + q.1.length ≤ 4611686018427387904 then
                some (((st.upd n (r.put (j :: p) .xx) q.2 [j :: p]).new (rootName d) (.sv (.sl false k (es ++ q.1)))).put (some d) (.rf (rootName d) [])) else none
            | _ => none
        | _ => none
    | _, _ => none

theorem app_op (hT : TOK P T) {o : Oper} {st st' : St} {c : Call} {s x d t t2} (ho : o.op = .call c) (hcal : c.callee = .builtin .append) (hargs : c.args.toList = [s, x]) (hty : c.argTypes.toList = [t, t2]) (hd : o.dst = some d)
    (h : appSt T N st t t2 (evalO st s) (evalO st x) d = some st') : OpOK P N o st st' :=
  OpOK.val fun fr S rv a w hf hR => by
    simp only [appSt, Option.bind_eq_some_iff] at h
    obtain ⟨i, hi, i2, hi2, h⟩ := h
    split at h
    · rename_i e k b e2 k2 b2 hk hk2
      simp only [Option.bind_eq_some_iff] at h
      obtain ⟨ie, hie, ⟨xs, ms⟩, hxs, h⟩ := h
      obtain ⟨dd, hdd, _, hkd⟩ := (hT t i hi).und
      rw [hk] at hkd
      obtain ⟨rfl, ie', hie', hs', hb'⟩ := hkd
      obtain ⟨dd2, hdd2, _, hkd2⟩ := (hT t2 i2 hi2).und
      rw [hk2] at hkd2
      obtain ⟨rfl, _⟩ := hkd2
      obtain ⟨inf, z, hinf, hisz, hz, hzc, hzo, _⟩ := (hT e ie hie).inf
      rw [hie'] at hinf; cases hinf
      have hzs : z.cells.size = k := by
        have := congrArg List.length hzc
        simp at this
        rw [this, (hT e ie hie).len, ← hisz, hs']
      obtain ⟨A, cap, news, hax, hels, hfirst, hms, hnd⟩ := xsV_ok (P := P) hR (evalO_ok hR x) hxs
      have hmsr : ∀ n ∈ ms, ∃ r, st.σ n = some r := fun n hn => let ⟨t, ht⟩ := hms n hn; ⟨_, ht⟩
      have hca : c.args = #[s, x] := by rw [← Array.toArray_toList (xs := c.args), hargs]
      have hct : c.argTypes = #[t, t2] := by rw [← Array.toArray_toList (xs := c.argTypes), hty]
      have run : ∀ v' w', (Builtin.append_ #[t, t2] o.type #[a.eval s, .slice A xs.length cap]).run P w = .ok v' w' → (execOp a.eval o).run P w = .ok (.value v') w' := by
        intro v' w' hr
        rw [run_builtin_call ho hcal]
        simp only [builtin, hca, hct, List.map_toArray, List.map_cons, List.map_nil, hax, Sem.run_bind, hr, Result.andThen_ok, Sem.run_pure]
      have hXlt : ∀ b, fr.X b → b < w.heap.size := fun b hb => Nat.lt_of_lt_of_le (hR.xlt b (hR.xy b hb)) hR.size
      have hmlt : ∀ b, (∃ n ∈ ms, S n b) → b < w.heap.size := by
        rintro b ⟨n, hn, hb⟩; obtain ⟨t, ht⟩ := hms n hn; exact (hR.sout n _ b ht hb).1
      split at h
      · -- nil
        rename_i hs
        split at h
        · rename_i hc
          cases h
          obtain ⟨hdN, hσ, hby, h63⟩ := hc
          have hv := evalO_ok hR s
          rw [hs, VR_nl] at hv
          obtain ⟨v', w', hrun, h1, h2, h3, h4, h5, h6⟩ := run_append_gen (P := P) (w := w) (Z := fr.X) (S := fun _ => False) (ty := o.type) (es := []) hdd ⟨_, hdd2⟩ hie' hz hs' hb' hzs (v := a.eval s) (by rw [RV_ow]; exact .inl ⟨hv, rfl⟩)
            hels hfirst (fun _ _ h => h) (fun _ h => h.elim) (fun y hy => hy.elim False.elim (fun hy => hy.elim (hmlt y) (hXlt y))) (by simpa using hby) (by simpa using h63) rfl
          refine ⟨v', w', run v' w' hrun, ?_⟩
          obtain ⟨S', rv', hR', hrv⟩ := hR.consume hf (w' := w') (d := rootName d) (r := .sv (.sl false k ([] ++ xs))) (v := v') (ms := ms) h1 h2 h3 h4 (fun b hb _ => h5 b hb (fun h => h)) (.inl hσ) hmsr ⟨rfl, h6⟩
            (fun b hb => hb.elim False.elim (fun hb => hb.elim .inr .inl)) (hf.fresh hdN)
          rw [hd]
          refine ⟨S', rv', hR'.put (fun y hy => by cases hy; exact hf.n ▸ hdN) ?_⟩
          rw [VR_rf]
          exact ⟨_, by simp [St.new]; rfl, by simp [rAt, hrv], false, k, xs, rfl⟩
        · cases h
      · rename_i n hs
        simp only [Option.bind_eq_some_iff] at h
        obtain ⟨r, hσn, h⟩ := h
        split at h
        · rename_i k' es
          split at h
          · rename_i hc
            cases h
            obtain ⟨rfl, hck, hnm, hdN, hσ, hby, h63⟩ := hc
            have hv := evalO_ok hR s
            rw [hs, VR_rf] at hv
            obtain ⟨r1, hr1, hat, _⟩ := hv
            rw [hσn] at hr1; cases hr1
            simp only [rAt, Option.some.injEq] at hat
            have hrr := (hR.rr n _ hσn).2
            rw [hat] at hrr
            have hdis : ∀ y, (∃ m ∈ ms, S m y) → ¬ S n y := by
              rintro y ⟨m, hm, hy⟩ hy'; obtain ⟨t, ht⟩ := hms m hm; exact hR.sdis m n _ _ y ht hσn (fun e => hnm (e ▸ hm)) hy hy'
            obtain ⟨v', w', hrun, h1, h2, h3, h4, h5, h6⟩ := run_append_gen (P := P) (w := w) (Z := fr.X) (ty := o.type) hdd ⟨_, hdd2⟩ hie' hz hs' hb' hzs hrr
              hels hfirst hdis (fun y hy hx => (hR.sout n _ y hσn hy).2.1 (hR.xy y hx)) (fun y hy => hy.elim (fun hy => (hR.sout n _ y hσn hy).1) (fun hy => hy.elim (hmlt y) (hXlt y))) hby h63 hck
            refine ⟨v', w', run v' w' hrun, ?_⟩
            obtain ⟨S', rv', hR', hrv⟩ := hR.consume hf (w' := w') (d := rootName d) (r := .sv (.sl false k' (es ++ xs))) (v := v') (ms := n :: ms) h1 h2 h3 h4 (fun b hb hno => h5 b hb (hno n (by simp))) (hσ.imp id (fun e => by simp [e]))
              (fun m hm => (List.mem_cons.1 hm).elim (fun e => ⟨_, e ▸ hσn⟩) (hmsr m)) ⟨rfl, h6⟩
              (fun b hb => hb.elim (fun hb => .inr ⟨n, by simp, hb⟩) (fun hb => hb.elim (fun ⟨m, hm, hb⟩ => .inr ⟨m, by simp [hm], hb⟩) .inl)) (hf.fresh hdN)
            rw [hd]
            refine ⟨S', rv', hR'.put (fun y hy => by cases hy; exact hf.n ▸ hdN) ?_⟩
            rw [VR_rf]
            exact ⟨_, by simp [St.new]; rfl, by simp [rAt, hrv], false, k', es ++ xs, rfl⟩
          · cases h
        · cases h
      · rename_i n j p hs
        simp only [Option.bind_eq_some_iff] at h
        obtain ⟨r, hσn, h⟩ := h
        split at h
        · rename_i k' es hg
          split at h
          · rename_i hc
            cases h
            obtain ⟨rfl, hck, hnm, hdN, hσ, hown, hby, h63⟩ := hc
            have hv := evalO_ok hR s
            rw [hs, VR_rf] at hv
            obtain ⟨r1, hr1, hat, _⟩ := hv
            rw [hσn] at hr1; cases hr1
            obtain ⟨u, S1, S2, hsep, hau, hru, hres⟩ := RR_lend (hR.rr n r hσn) hown hg rfl
            rw [hat] at hau
            simp only [Option.some.injEq] at hau
            rw [← hau] at hru
            have hdis : ∀ y, (∃ m ∈ ms, S m y) → ¬ S1 y := by
              rintro y ⟨m, hm, hy⟩ hy'; obtain ⟨t, ht⟩ := hms m hm; exact hR.sdis m n _ _ y ht hσn (fun e => hnm (e ▸ hm)) hy (hsep.1 y hy')
            obtain ⟨v', w', hrun, h1, h2, h3, h4, h5, h6⟩ := run_append_gen (P := P) (w := w) (Z := fr.X) (ty := o.type) hdd ⟨_, hdd2⟩ hie' hz hs' hb' hzs hru
              hels hfirst hdis (fun y hy hx => (hR.sout n _ y hσn (hsep.1 y hy)).2.1 (hR.xy y hx)) (fun y hy => hy.elim (fun hy => (hR.sout n _ y hσn (hsep.1 y hy)).1) (fun hy => hy.elim (hmlt y) (hXlt y))) hby h63 hck
            refine ⟨v', w', run v' w' hrun, ?_⟩
            have hA2 : Agr w w' S2 := fun y hy => h5 y (hR.sout n _ y hσn (hsep.2.1 y hy)).1 (fun hy' => hsep.2.2 y hy' hy)
            have hAX : Agr w w' fr.X := fun y hy => h5 y (hXlt y hy) (fun hy' => (hR.sout n _ y hσn (hsep.1 y hy')).2.1 (hR.xy y hy))
            obtain ⟨hR1, hL1⟩ := hres w' .xx (fun _ => False) rfl (by simp) hA2 hAX (by rw [RV_xx]; trivial) (fun _ h => h.elim)
            have hdn : rootName d ≠ n := fun e => by rw [e, hσn] at hσ; cases hσ
            obtain ⟨S', rv', hR', hrv⟩ := hR.takeOut hf (w' := w') (d := rootName d) (r' := .sv (.sl false k' (es ++ xs))) (v := v') (ms := ms) hσn hg rfl (by simp) h1 h2 h3 h4 (fun b hb hno _ => h5 b hb hno) hσ hdn hnm hmsr hsep
              (RR_congr (fun _ _ => rfl) (fun _ h => h) (fun _ _ => rfl) (fun y hy => hy.elim False.elim id) hR1) hL1 ⟨rfl, h6⟩
              (fun b hb => hb.elim (fun hb => .inr (.inl hb)) (fun hb => hb.elim (fun hb => .inr (.inr hb)) .inl)) (hf.fresh hdN)
            rw [hd]
            refine ⟨S', rv', hR'.put (fun y hy => by cases hy; exact hf.n ▸ hdN) ?_⟩
            rw [VR_rf]
            exact ⟨_, by simp [St.new]; rfl, by simp [rAt, hrv], false, k', es ++ xs, rfl⟩
          · cases h
        · cases h
      · cases h
    · cases h
end Go.Eng

set_option linter.unusedSimpArgs false
set_option linter.unusedVariables false
namespace Go.Eng
open Go.RowKit
variable {P : Program} {T : Nat → Option TI} {N : Nat}

mutual
theorem RV_frz {w : World} {Z Z' : Nat → Prop} : ∀ (t : PV) (v : Value) (S S' : Nat → Prop), (∀ b, Z b ∨ S b → Z' b) → RV w Z t v S → RV w Z' t.frz v S'
  | .sc x, v, S, S', hz, h => by rw [PV.frz, RV_sc] at *; exact h
  | .xx, v, S, S', hz, h => by rw [PV.frz, RV_xx]; trivial
  | .ag _, v, S, S', hz, h => by rw [RV_ag] at h; exact h.elim
  | .sl true k es, v, S, S', hz, h => by
    rw [RV_fz] at h
    rw [PV.frz, RV_fz, PV.length_frzs]
    obtain ⟨A, cap, rfl, hc, h⟩ := h
    refine ⟨A, cap, rfl, hc, h.imp id ?_⟩
    rintro ⟨b, o, rfl, hb, he⟩
    exact ⟨b, o, rfl, hz b (.inl hb), RE_frz es b o k _ _ (fun b h => h.elim (fun h => hz b (.inl h)) False.elim) he⟩
  | .sl false k es, v, S, S', hz, h => by
    rw [RV_ow] at h
    rw [PV.frz, RV_fz, PV.length_frzs]
    rcases h with ⟨rfl, h0⟩ | ⟨b, cap, cur, ty, rfl, hc, hb, hh, hsz, he⟩
    · exact ⟨none, 0, by rw [h0], by omega, .inl h0⟩
    · exact ⟨_, cap, rfl, hc, .inr ⟨b, 0, rfl, hz b (.inr hb), RE_frz es b 0 k _ _ (fun b h => h.elim (fun h => hz b (.inl h)) (fun h => hz b (.inr h.1))) he⟩⟩
theorem RE_frz {w : World} {Z Z' : Nat → Prop} : ∀ (es : List PV) (b o k : Nat) (S S' : Nat → Prop), (∀ b, Z b ∨ S b → Z' b) → RE w Z es b o k S → RE w Z' (PV.frzs es) b o k S'
  | [], b, o, k, S, S', hz, h => by rw [PV.frzs, RE_nil]; trivial
  | .ag cs :: es, b, o, k, S, S', hz, h => by
    rw [RE_cons] at h
    obtain ⟨S1, S2, hsep, h1, h2⟩ := h
    rw [PV.frzs, RE_cons]
    refine ⟨fun _ => False, S', ⟨fun _ h => h.elim, fun _ h => h, fun _ h _ => h⟩, ?_, RE_frz es b (o + k) k S2 S' (fun b h => hz b (h.imp id (hsep.2.1 b))) h2⟩
    rw [RN_ag] at h1
    rw [PV.frz, RN_ag, PV.length_frzs]
    exact ⟨h1.1, RC_frz cs b o S1 _ (fun b h => hz b (h.imp id (hsep.1 b))) h1.2⟩
  | .sc x :: es, b, o, k, S, S', hz, h => by
    rw [RE_cons] at h
    obtain ⟨S1, S2, hsep, h1, h2⟩ := h
    rw [PV.frzs, RE_cons]
    refine ⟨fun _ => False, S', ⟨fun _ h => h.elim, fun _ h => h, fun _ h _ => h⟩, ?_, RE_frz es b (o + k) k S2 S' (fun b h => hz b (h.imp id (hsep.2.1 b))) h2⟩
    rw [RN_cell rfl] at h1
    rw [RN_cell (by simp [PV.frz, PV.isAg])]
    obtain ⟨hk, v, hv, hr⟩ := h1
    exact ⟨hk, v, hv, RV_frz (.sc x) v S1 _ (fun b h => hz b (h.imp id (hsep.1 b))) hr⟩
  | .xx :: es, b, o, k, S, S', hz, h => by
    rw [RE_cons] at h
    obtain ⟨S1, S2, hsep, h1, h2⟩ := h
    rw [PV.frzs, RE_cons]
    refine ⟨fun _ => False, S', ⟨fun _ h => h.elim, fun _ h => h, fun _ h _ => h⟩, ?_, RE_frz es b (o + k) k S2 S' (fun b h => hz b (h.imp id (hsep.2.1 b))) h2⟩
    rw [RN_cell rfl] at h1
    rw [RN_cell (by simp [PV.frz, PV.isAg])]
    obtain ⟨hk, v, hv, hr⟩ := h1
    exact ⟨hk, v, hv, RV_frz .xx v S1 _ (fun b h => hz b (h.imp id (hsep.1 b))) hr⟩
  | .sl f k' es' :: es, b, o, k, S, S', hz, h => by
    rw [RE_cons] at h
    obtain ⟨S1, S2, hsep, h1, h2⟩ := h
    rw [PV.frzs, RE_cons]
    refine ⟨fun _ => False, S', ⟨fun _ h => h.elim, fun _ h => h, fun _ h _ => h⟩, ?_, RE_frz es b (o + k) k S2 S' (fun b h => hz b (h.imp id (hsep.2.1 b))) h2⟩
    rw [RN_cell rfl] at h1
    rw [RN_cell (by simp [PV.frz, PV.isAg])]
    obtain ⟨hk, v, hv, hr⟩ := h1
    exact ⟨hk, v, hv, RV_frz (.sl f k' es') v S1 _ (fun b h => hz b (h.imp id (hsep.1 b))) hr⟩
theorem RC_frz {w : World} {Z Z' : Nat → Prop} : ∀ (cs : List PV) (b o : Nat) (S S' : Nat → Prop), (∀ b, Z b ∨ S b → Z' b) → RC w Z cs b o S → RC w Z' (PV.frzs cs) b o S'
  | [], b, o, S, S', hz, h => by rw [PV.frzs, RC_nil]; trivial
  | c :: cs, b, o, S, S', hz, h => by
    rw [RC_cons] at h
    obtain ⟨S1, S2, hsep, ⟨v, hv, hr⟩, h2⟩ := h
    rw [PV.frzs, RC_cons]
    exact ⟨fun _ => False, S', ⟨fun _ h => h.elim, fun _ h => h, fun _ h _ => h⟩, ⟨v, hv, RV_frz c v S1 _ (fun b h => hz b (h.imp id (hsep.1 b))) hr⟩, RC_frz cs b (o + 1) S2 S' (fun b h => hz b (h.imp id (hsep.2.1 b))) h2⟩
end

mutual
def PV.nofz : PV → Bool
  | .sl f _ es => !f && PV.nofzs es
  | .ag cs => PV.nofzs cs
  | _ => true
def PV.nofzs : List PV → Bool
  | [] => true
  | e :: es => e.nofz && PV.nofzs es
end
mutual
theorem RV_nofz {w : World} {Z Z' : Nat → Prop} : ∀ (t : PV) (v : Value) (S : Nat → Prop), t.nofz = true → RV w Z t v S → RV w Z' t v S
  | .sc x, v, S, hf, h => by rw [RV_sc] at *; exact h
  | .xx, v, S, hf, h => by rw [RV_xx]; trivial
  | .ag _, v, S, hf, h => by rw [RV_ag] at h; exact h.elim
  | .sl true k es, v, S, hf, h => by simp [PV.nofz] at hf
  | .sl false k es, v, S, hf, h => by
    simp only [PV.nofz, Bool.not_false, Bool.true_and] at hf
    rw [RV_ow] at *
    refine h.imp id ?_
    rintro ⟨b, cap, cur, ty, rfl, hc, hb, hh, hsz, he⟩
    exact ⟨b, cap, cur, ty, rfl, hc, hb, hh, hsz, RE_nofz es b 0 k _ hf he⟩
theorem RE_nofz {w : World} {Z Z' : Nat → Prop} : ∀ (es : List PV) (b o k : Nat) (S : Nat → Prop), PV.nofzs es = true → RE w Z es b o k S → RE w Z' es b o k S
  | [], b, o, k, S, hf, h => by rw [RE_nil]; trivial
  | .ag cs :: es, b, o, k, S, hf, h => by
    rw [RE_cons] at *
    simp only [PV.nofzs, PV.nofz, Bool.and_eq_true] at hf
    obtain ⟨S1, S2, hsep, h1, h2⟩ := h
    exact ⟨S1, S2, hsep, ⟨h1.1, RC_nofz cs b o S1 hf.1 h1.2⟩, RE_nofz es b (o + k) k S2 hf.2 h2⟩
  | .sc x :: es, b, o, k, S, hf, h => by
    rw [RE_cons] at *
    simp only [PV.nofzs, Bool.and_eq_true] at hf
    obtain ⟨S1, S2, hsep, h1, h2⟩ := h
    rw [RN_cell rfl] at h1
    obtain ⟨hk, v, hv, hr⟩ := h1
    exact ⟨S1, S2, hsep, by rw [RN_cell rfl]; exact ⟨hk, v, hv, RV_nofz (.sc x) v S1 hf.1 hr⟩, RE_nofz es b (o + k) k S2 hf.2 h2⟩
  | .xx :: es, b, o, k, S, hf, h => by
    rw [RE_cons] at *
    simp only [PV.nofzs, Bool.and_eq_true] at hf
    obtain ⟨S1, S2, hsep, h1, h2⟩ := h
    rw [RN_cell rfl] at h1
    obtain ⟨hk, v, hv, hr⟩ := h1
    exact ⟨S1, S2, hsep, by rw [RN_cell rfl]; exact ⟨hk, v, hv, RV_nofz .xx v S1 hf.1 hr⟩, RE_nofz es b (o + k) k S2 hf.2 h2⟩
  | .sl f k' es' :: es, b, o, k, S, hf, h => by
    rw [RE_cons] at *
    simp only [PV.nofzs, Bool.and_eq_true] at hf
    obtain ⟨S1, S2, hsep, h1, h2⟩ := h
    rw [RN_cell rfl] at h1
    obtain ⟨hk, v, hv, hr⟩ := h1
    exact ⟨S1, S2, hsep, by rw [RN_cell rfl]; exact ⟨hk, v, hv, RV_nofz (.sl f k' es') v S1 hf.1 hr⟩, RE_nofz es b (o + k) k S2 hf.2 h2⟩
theorem RC_nofz {w : World} {Z Z' : Nat → Prop} : ∀ (cs : List PV) (b o : Nat) (S : Nat → Prop), PV.nofzs cs = true → RC w Z cs b o S → RC w Z' cs b o S
  | [], b, o, S, hf, h => by rw [RC_nil]; trivial
  | c :: cs, b, o, S, hf, h => by
    rw [RC_cons] at *
    simp only [PV.nofzs, Bool.and_eq_true] at hf
    obtain ⟨S1, S2, hsep, ⟨v, hv, hr⟩, h2⟩ := h
    exact ⟨S1, S2, hsep, ⟨v, hv, RV_nofz c v S1 hf.1 hr⟩, RC_nofz cs b (o + 1) S2 hf.2 h2⟩
end

inductive D where
  | v (c : PV)
  | g (cs : List PV)
  | p (cs : List PV)
  | f (fn : Nat) (caps : List (List PV))
  | x
  deriving Inhabited

def SlotR (w : World) (Z : Nat → Prop) (c : PV) (u : Value) (S : Nat → Prop) : Prop :=
  match c with
  | .ag cs => RR w Z (.bx cs) u S
  | c => RV w Z c u S
def SlotRs (w : World) (Z : Nat → Prop) : List PV → List Value → (Nat → Prop) → Prop
  | [], vs, _ => vs = []
  | c :: cs, vs, S => ∃ v vs' S1 S2, vs = v :: vs' ∧ Sep S S1 S2 ∧ SlotR w Z c v S1 ∧ SlotRs w Z cs vs' S2
def DR (w : World) (Z : Nat → Prop) : D → Value → (Nat → Prop) → Prop
  | .v c, v, S => RV w Z c v S
  | .g cs, v, S => ∃ arr : Array Value, v = .agg arr ∧ SlotRs w Z cs arr.toList S ∧ (∀ c ∈ cs, c.isAg = false) ∧ (∀ u ∈ arr.toList, u.oneCell' = true)
  | .p cs, v, S => RR w Z (.bx cs) v S
  | .f fn caps, v, S => ∃ arr : Array Value, v = .func (.func fn) #[] arr ∧ SlotRs w Z (caps.map .ag) arr.toList S
  | .x, _, _ => True
def DRs (w : World) (Z : Nat → Prop) : List D → List Value → (Nat → Prop) → Prop
  | [], vs, _ => vs = []
  | d :: ds, vs, S => ∃ v vs' S1 S2, vs = v :: vs' ∧ Sep S S1 S2 ∧ DR w Z d v S1 ∧ DRs w Z ds vs' S2
theorem SlotR_mono {w Z c u S S'} (hS : ∀ x, S x → S' x) (h : SlotR w Z c u S) : SlotR w Z c u S' := by
  cases c with
  | ag cs => exact RR_congr (w := w) (w' := w) (Z := Z) (Z' := Z) (r := .bx cs) (v := u) (S := S) (fun _ _ => rfl) (fun _ h => h) (fun _ _ => rfl) hS h
  | _ => exact RV_mono hS h
def resOf (vs : List Value) : Value := if h : vs.length = 1 then vs[0] else .tuple vs.toArray

def ACall (P : Program) (f : Nat) (ins outs res : List D) : Prop :=
  ∀ (w : World) (Z S : Nat → Prop) (vals : List Value), GW P w Z → DRs w Z ins vals S → (∀ b, Z b ∨ S b → b < w.heap.size) → (∀ b, S b → ¬ Z b) →
    Calls P f vals.toArray w fun e w' => ∃ rvs S' Sr, e = .returned (resOf rvs) ∧ w'.os = w.os ∧ TD w w' ∧ w'.output = w.output ∧ w.heap.size ≤ w'.heap.size ∧
      (∀ b, b < w.heap.size → ¬ S b → w'.heap[b]? = w.heap[b]?) ∧ (∀ b, S' b ∨ Sr b → S b ∨ (w.heap.size ≤ b ∧ b < w'.heap.size)) ∧ (∀ b, S' b → Sr b → False) ∧
      DRs w' Z outs vals S' ∧ DRs w' Z res rvs Sr
def ACallX (P : Program) (f : Nat) (ins : List D) {α : Type} (p : α → Prop) (outs res : α → List D) : Prop :=
  ∀ (w : World) (Z S : Nat → Prop) (vals : List Value), GW P w Z → DRs w Z ins vals S → (∀ b, Z b ∨ S b → b < w.heap.size) → (∀ b, S b → ¬ Z b) →
    Calls P f vals.toArray w fun e w' => ∃ x, p x ∧ ∃ rvs S' Sr, e = .returned (resOf rvs) ∧ w'.os = w.os ∧ TD w w' ∧ w'.output = w.output ∧ w.heap.size ≤ w'.heap.size ∧
      (∀ b, b < w.heap.size → ¬ S b → w'.heap[b]? = w.heap[b]?) ∧ (∀ b, S' b ∨ Sr b → S b ∨ (w.heap.size ≤ b ∧ b < w'.heap.size)) ∧ (∀ b, S' b → Sr b → False) ∧
      DRs w' Z (outs x) vals S' ∧ DRs w' Z (res x) rvs Sr
theorem ACall.x {f : Nat} {ins outs res : List D} (h : ACall P f ins outs res) : ACallX P f ins (fun _ : Unit => True) (fun _ => outs) (fun _ => res) :=
  fun w Z S vals h0 h1 h2 h3 => (h w Z S vals h0 h1 h2 h3).mono fun e w' h => ⟨(), trivial, h⟩
theorem ACallX.one {f : Nat} {ins outs res : List D} (h : ACallX P f ins (fun _ : Unit => True) (fun _ => outs) (fun _ => res)) : ACall P f ins outs res :=
  fun w Z S vals h0 h1 h2 h3 => (h w Z S vals h0 h1 h2 h3).mono fun e w' ⟨_, _, h⟩ => h
theorem ACallX.imp {f : Nat} {ins : List D} {α β : Type} {p : α → Prop} {outs res : α → List D} {q : β → Prop} {outs' res' : β → List D} (h : ACallX P f ins p outs res) (g : α → β) (hq : ∀ x, p x → q (g x)) (ho : ∀ x, p x → outs' (g x) = outs x) (hr : ∀ x, p x → res' (g x) = res x) : ACallX P f ins q outs' res' :=
  fun w Z S vals h0 h1 h2 h3 => (h w Z S vals h0 h1 h2 h3).mono fun e w' ⟨x, hx, h⟩ => ⟨g x, hq x hx, by rw [ho x hx, hr x hx]; exact h⟩
end Go.Eng

set_option linter.unusedSimpArgs false
set_option linter.unusedVariables false
namespace Go.Eng
open Go.RowKit
variable {P : Program} {T : Nat → Option TI} {N : Nat}

abbrev Lt := List (Nat × Option (List Nat))
def LendC (st : St) : V → PV → Lt → Prop
  | .c t, c, l => c = t ∧ l = []
  | .nl, c, l => (∃ f k, c = .sl f k []) ∧ l = []
  | .rf n p, c, l => ∃ r m, st.σ n = some r ∧ r.node.get p = some m ∧ ((c = m.frz ∧ l = [(n, none)]) ∨ (c = m ∧ m.isOwn = true ∧ r.node.own p = true ∧ l = [(n, some p)]))
  | .rn n p s, c, l => ∃ r m lo hi k es, s = .sub lo hi k ∧ st.σ n = some r ∧ r.node.get p = some m ∧ m.frz = .sl true k es ∧ c = .sl true k ((es.drop lo).take (hi - lo)) ∧ l = [(n, none)]
  | _, _, _ => False
def LendCs (st : St) : List V → List PV → Lt → Prop
  | [], [], l => l = []
  | x :: xs, c :: cs, l => ∃ l1 l2, l = l1 ++ l2 ∧ x.one = true ∧ LendC st x c l1 ∧ LendCs st xs cs l2
  | _, _, _ => False
def LendBs (st : St) : List V → List (List PV) → Lt → Prop
  | [], [], l => l = []
  | x :: xs, cs :: css, l => ∃ n l2, x = .pt n [] 0 ∧ st.σ n = some (.bx cs) ∧ l = [(n, some [])] ++ l2 ∧ LendBs st xs css l2
  | _, _, _ => False
def Lend (st : St) : V → D → Lt → Prop
  | x, .v c, l => LendC st x c l
  | .g xs, .g cs, l => LendCs st xs cs l
  | x, .p cs, l => LendBs st [x] [cs] l
  | .fn f xs, .f f' css, l => f' = f ∧ LendBs st xs css l
  | .dead, .x, l => l = []
  | _, _, _ => False
def Lends (st : St) : List V → List D → Lt → Prop
  | [], [], l => l = []
  | x :: xs, d :: ds, l => ∃ l1 l2, l = l1 ++ l2 ∧ Lend st x d l1 ∧ Lends st xs ds l2
  | _, _, _ => False

def PV.isXX : PV → Bool
  | .xx => true
  | _ => false
abbrev Up := List (Nat × List Nat × PV)
def backC : V → PV → PV → Up
  | .rf n p, .sl false _ _, c' => [(n, p, c')]
  | _, _, _ => []
def backCs : List V → List PV → List PV → Up
  | x :: xs, c :: cs, c' :: cs' => backC x c c' ++ backCs xs cs cs'
  | _, _, _ => []
def backBs : List V → List (List PV) → Up
  | .pt n _ _ :: xs, cs' :: css' => [(n, [], .ag cs')] ++ backBs xs css'
  | _, _ => []
def back : V → D → D → Up
  | x, .v c, .v c' => backC x c c'
  | x, .v c, .x => backC x c .xx
  | .g xs, .g cs, .g cs' => backCs xs cs cs'
  | .g xs, .g cs, .x => backCs xs cs (cs.map fun _ => .xx)
  | x, .p _, .p cs' => backBs [x] [cs']
  | .fn _ xs, .f _ _, .f _ css' => backBs xs css'
  | _, _, _ => []
def backs : List V → List D → List D → Up
  | x :: xs, d :: ds, d' :: ds' => back x d d' ++ backs xs ds ds'
  | _, _, _ => []
def upOf (ups : Up) (m : Nat) : Option (List Nat × PV) :=
  match ups with
  | [] => none
  | (n, p, c) :: ups => if n = m then some (p, c) else upOf ups m
def backP (ups : Up) (m : Nat) (q : List Nat) : Option (Nat × List Nat) :=
  match upOf ups m with
  | some (p, c) => if (ext p q || (c.isXX && pre p q)) = true then none else some (m, q)
  | none => some (m, q)
def backQ (ups : Up) (m : Nat) (q : List Nat) : Option (Nat × List Nat) :=
  match upOf ups m with
  | some (p, c) => if (ext p q || (c.isXX && p.isEmpty)) = true then none else some (m, q)
  | none => some (m, q)
def St.back (st : St) (ups : Up) : St :=
  { env := fun t => (st.env t).ren (backP ups) (backQ ups),
    σ := fun m => match upOf ups m with
      | some (p, c) => (st.σ m).bind fun r => if (c.isXX && p.isEmpty) = true then none else some (r.put p c)
      | none => st.σ m }

structure LentOK (fr : Fr) (S : Nat → Nat → Prop) (rv : Nat → Value) (st : St) (w : World) (n : Nat) (p : List Nat) (S1 S2 : Nat → Prop) (u : Value) (r : Root) (c : PV) : Prop where
  σ : st.σ n = some r
  get : r.node.get p = some c
  val : (c.isAg = true ∧ p = [] ∧ u = rv n) ∨ (c.isAg = false ∧ rAt w r (rv n) p = some u)
  sep : Sep (S n) S1 S2
  slot : SlotR w fr.X c u S1
  back : ∀ w' c' S1', c'.isAg = c.isAg → (p = [] → c.isAg = false → c'.isOwn = true) → Agr w w' S2 → Agr w w' fr.X → SlotR w' fr.X c' u S1' → (∀ x, S1' x → ¬ S2 x) →
      RR w' fr.X (r.put p c') (rv n) (fun x => S1' x ∨ S2 x) ∧
      (∀ p' x, rLoc w r (rv n) p' = some x → ¬ Ext p p' → rLoc w' (r.put p c') (rv n) p' = some x ∧
          (∀ m, r.node.get p' = some m → m.isAg = false → w'.cell? ⟨x.1, x.2, none⟩ = w.cell? ⟨x.1, x.2, none⟩))

theorem lent_slice {fr S rv st a w} (h : Rel0 fr S rv st a w) {n p r c} (hσ : st.σ n = some r) (hg : r.node.get p = some c) (ho : r.node.own p = true) (hc : c.isOwn = true) :
    ∃ S1 S2 u, LentOK fr S rv st w n p S1 S2 u r c := by
  have ha : c.isAg = false := by cases c <;> simp_all [PV.isOwn, PV.isAg]
  obtain ⟨u, S1, S2, hsep, hat, hr, hres⟩ := RR_lend (h.rr n r hσ) ho hg ha
  refine ⟨S1, S2, u, hσ, hg, .inr ⟨ha, hat⟩, hsep, by cases c <;> first | exact hr | simp [PV.isAg] at ha, ?_⟩
  intro w' c' S1' hk hp hA hX hs hd
  have ha' : c'.isAg = false := hk.trans ha
  exact hres w' c' S1' ha' (fun e => hp e ha) hA hX (by cases c' <;> first | exact hs | simp [PV.isAg] at ha') hd
theorem lent_box {fr S rv st a w} (h : Rel0 fr S rv st a w) {n cs} (hσ : st.σ n = some (.bx cs)) : ∃ S1 S2 u, LentOK fr S rv st w n [] S1 S2 u (.bx cs) (.ag cs) := by
  refine ⟨S n, fun _ => False, rv n, hσ, rfl, .inl ⟨rfl, rfl, rfl⟩, ⟨fun _ h => h, fun _ h => h.elim, fun _ _ h => h⟩, h.rr n _ hσ, ?_⟩
  intro w' c' S1' hk _ hA hX hs hd
  cases c' with
  | ag cs' =>
    have hs' : RR w' fr.X (.bx cs') (rv n) S1' := hs
    refine ⟨RR_congr (fun _ _ => rfl) (fun _ h => h) (fun _ _ => rfl) (fun _ h => .inl h) hs', ?_⟩
    intro p' x hx he
    cases p' with
    | nil =>
      obtain ⟨b, cur, ty, hv, _⟩ := hs'
      refine ⟨?_, fun m hm hma => ?_⟩
      · rw [hv] at hx ⊢
        exact hx
      · simp only [Root.node, PV.get, Option.some.injEq] at hm; subst hm; simp [PV.isAg] at hma
    | cons i p' => exact absurd ⟨List.nil_prefix, by simp⟩ he
  | _ => simp [PV.isAg] at hk

def lentOf (l : Lt) : List Nat := l.filterMap fun s => s.2.map fun _ => s.1
theorem mem_lentOf {l : Lt} {n p} (h : (n, some p) ∈ l) : n ∈ lentOf l := List.mem_filterMap.2 ⟨_, h, rfl⟩
theorem lentOf_append (l1 l2 : Lt) : lentOf (l1 ++ l2) = lentOf l1 ++ lentOf l2 := by simp [lentOf]
theorem lent_unique : ∀ (l : Lt), (lentOf l).Nodup → ∀ n p p', (n, some p) ∈ l → (n, some p') ∈ l → p = p'
  | [], _, n, p, p', h, _ => by simp at h
  | (m, q) :: l, hnd, n, p, p', h1, h2 => by
    have hl : lentOf ((m, q) :: l) = lentOf [(m, q)] ++ lentOf l := lentOf_append [(m, q)] l
    rw [hl, List.nodup_append] at hnd
    rcases List.mem_cons.1 h1 with e1 | h1'
    · rcases List.mem_cons.1 h2 with e2 | h2'
      · cases e1; cases e2; rfl
      · cases e1; exact absurd rfl (hnd.2.2 m (by simp [lentOf]) m (mem_lentOf h2'))
    · rcases List.mem_cons.1 h2 with e2 | h2'
      · cases e2; exact absurd rfl (hnd.2.2 m (by simp [lentOf]) m (mem_lentOf h1'))
      · exact lent_unique l hnd.2.1 n p p' h1' h2'

structure LentAll (fr : Fr) (S : Nat → Nat → Prop) (rv : Nat → Value) (st : St) (w : World) (l : Lt) (S1 S2 : Nat → Nat → Prop) (u : Nat → Value) : Prop where
  all : ∀ n p, (n, some p) ∈ l → ∃ r c, LentOK fr S rv st w n p (S1 n) (S2 n) (u n) r c
  reads : ∀ n, (n, none) ∈ l → ∃ r, st.σ n = some r

theorem lendC_slots {st : St} : ∀ {x c l}, LendC st x c l → ∀ n p, (n, some p) ∈ l → ∃ r m, st.σ n = some r ∧ r.node.get p = some m ∧ m.isOwn = true ∧ r.node.own p = true
  | .c t, c, l, h, n, p, hm => by simp only [LendC] at h; simp [h.2] at hm
  | .nl, c, l, h, n, p, hm => by simp only [LendC] at h; simp [h.2] at hm
  | .rf n' p', c, l, h, n, p, hm => by
    simp only [LendC] at h
    obtain ⟨r, m, h1, h2, ⟨_, rfl⟩ | ⟨_, h3, h4, rfl⟩⟩ := h
    · simp at hm
    · simp at hm; obtain ⟨rfl, rfl⟩ := hm; exact ⟨r, m, h1, h2, h3, h4⟩
  | .rn _ _ _, c, l, h, n, p, hm => by
    simp only [LendC] at h
    obtain ⟨r, m, lo, hi, k, es, _, _, _, _, _, rfl⟩ := h
    simp at hm
  | .g _, c, l, h, n, p, hm => by simp [LendC] at h
  | .pt _ _ _, c, l, h, n, p, hm => by simp [LendC] at h
  | .fp _ _, c, l, h, n, p, hm => by simp [LendC] at h
  | .fn _ _, c, l, h, n, p, hm => by simp [LendC] at h
  | .tu _, c, l, h, n, p, hm => by simp [LendC] at h
  | .dead, c, l, h, n, p, hm => by simp [LendC] at h
theorem lendC_reads {st : St} : ∀ {x c l}, LendC st x c l → ∀ n, (n, none) ∈ l → ∃ r, st.σ n = some r
  | .c t, c, l, h, n, hm => by simp only [LendC] at h; simp [h.2] at hm
  | .nl, c, l, h, n, hm => by simp only [LendC] at h; simp [h.2] at hm
  | .rf n' p', c, l, h, n, hm => by
    simp only [LendC] at h
    obtain ⟨r, m, h1, h2, ⟨_, rfl⟩ | ⟨_, h3, h4, rfl⟩⟩ := h
    · simp at hm; exact ⟨r, hm ▸ h1⟩
    · simp at hm
  | .rn _ _ _, c, l, h, n, hm => by
    simp only [LendC] at h
    obtain ⟨r, m, lo, hi, k, es, _, h1, _, _, _, rfl⟩ := h
    simp at hm; exact ⟨r, hm ▸ h1⟩
  | .g _, c, l, h, n, hm => by simp [LendC] at h
  | .pt _ _ _, c, l, h, n, hm => by simp [LendC] at h
  | .fp _ _, c, l, h, n, hm => by simp [LendC] at h
  | .fn _ _, c, l, h, n, hm => by simp [LendC] at h
  | .tu _, c, l, h, n, hm => by simp [LendC] at h
  | .dead, c, l, h, n, hm => by simp [LendC] at h

theorem lend_slots {fr S rv st a w} (h0 : Rel0 fr S rv st a w) : ∀ (xs : List V) (ins : List D) (l : Lt), Lends st xs ins l →
    (∀ n p, (n, some p) ∈ l → ∃ S1 S2 u r c, LentOK fr S rv st w n p S1 S2 u r c) ∧ ∀ n, (n, none) ∈ l → ∃ r, st.σ n = some r := by
  have cells : ∀ (xs : List V) (cs : List PV) (l : Lt), LendCs st xs cs l → (∀ n p, (n, some p) ∈ l → ∃ r m, st.σ n = some r ∧ r.node.get p = some m ∧ m.isOwn = true ∧ r.node.own p = true) ∧ ∀ n, (n, none) ∈ l → ∃ r, st.σ n = some r := by
    intro xs
    induction xs with
    | nil => intro cs l h; cases cs <;> simp [LendCs] at h; subst h; simp
    | cons x xs ih =>
      intro cs l h
      cases cs with
      | nil => simp [LendCs] at h
      | cons c cs =>
        obtain ⟨l1, l2, rfl, _, h1, h2⟩ := h
        obtain ⟨i1, i2⟩ := ih cs l2 h2
        exact ⟨fun n p hm => (List.mem_append.1 hm).elim (lendC_slots h1 n p) (i1 n p), fun n hm => (List.mem_append.1 hm).elim (lendC_reads h1 n) (i2 n)⟩
  have boxes : ∀ (xs : List V) (css : List (List PV)) (l : Lt), LendBs st xs css l → (∀ n p, (n, some p) ∈ l → p = [] ∧ ∃ cs, st.σ n = some (.bx cs)) ∧ ∀ n, (n, none) ∉ l := by
    intro xs
    induction xs with
    | nil => intro css l h; cases css <;> simp [LendBs] at h; subst h; simp
    | cons x xs ih =>
      intro css l h
      cases css with
      | nil => simp [LendBs] at h
      | cons cs css =>
        obtain ⟨n, l2, rfl, hσ, rfl, h2⟩ := h
        obtain ⟨i1, i2⟩ := ih css l2 h2
        refine ⟨fun m p hm => ?_, fun m hm => ?_⟩
        · simp only [List.singleton_append, List.mem_cons, Prod.mk.injEq, Option.some.injEq] at hm
          rcases hm with ⟨rfl, rfl⟩ | hm
          · exact ⟨rfl, cs, hσ⟩
          · exact i1 m p hm
        · simp at hm; exact i2 m hm
  intro xs
  induction xs with
  | nil => intro ins l h; cases ins <;> simp [Lends] at h; subst h; simp
  | cons x xs ih =>
    intro ins l h
    cases ins with
    | nil => simp [Lends] at h
    | cons d ds =>
      obtain ⟨l1, l2, rfl, h1, h2⟩ := h
      obtain ⟨i1, i2⟩ := ih ds l2 h2
      have one : (∀ n p, (n, some p) ∈ l1 → ∃ S1 S2 u r c, LentOK fr S rv st w n p S1 S2 u r c) ∧ ∀ n, (n, none) ∈ l1 → ∃ r, st.σ n = some r := by
        have slice : (∀ n p, (n, some p) ∈ l1 → ∃ r m, st.σ n = some r ∧ r.node.get p = some m ∧ m.isOwn = true ∧ r.node.own p = true) → ∀ n p, (n, some p) ∈ l1 → ∃ S1 S2 u r c, LentOK fr S rv st w n p S1 S2 u r c := by
          intro hh n p hm
          obtain ⟨r, m, hσ, hg, ho, hown⟩ := hh n p hm
          obtain ⟨S1, S2, u, hl⟩ := lent_slice h0 hσ hg hown ho
          exact ⟨S1, S2, u, r, m, hl⟩
        have box : (∀ n p, (n, some p) ∈ l1 → p = [] ∧ ∃ cs, st.σ n = some (.bx cs)) → ∀ n p, (n, some p) ∈ l1 → ∃ S1 S2 u r c, LentOK fr S rv st w n p S1 S2 u r c := by
          intro hh n p hm
          obtain ⟨rfl, cs, hσ⟩ := hh n p hm
          obtain ⟨S1, S2, u, hl⟩ := lent_box h0 hσ
          exact ⟨S1, S2, u, _, _, hl⟩
        cases d with
        | v c =>
          have h1 : LendC st x c l1 := by cases x <;> exact h1
          exact ⟨slice (lendC_slots h1), lendC_reads h1⟩
        | g cs =>
          cases x with
          | g xs' => obtain ⟨c1, c2⟩ := cells xs' cs l1 h1; exact ⟨slice c1, c2⟩
          | _ => simp [Lend] at h1
        | p cs =>
          have h1 : LendBs st [x] [cs] l1 := by cases x <;> exact h1
          obtain ⟨c1, c2⟩ := boxes [x] [cs] l1 h1
          exact ⟨box c1, fun n hn => absurd hn (c2 n)⟩
        | f f' css =>
          cases x with
          | fn f xs' => obtain ⟨c1, c2⟩ := boxes xs' css l1 h1.2; exact ⟨box c1, fun n hn => absurd hn (c2 n)⟩
          | _ => simp [Lend] at h1
        | x => have h1 : l1 = [] := by cases x <;> first | exact h1 | (simp [Lend] at h1)
               subst h1; simp
      exact ⟨fun n p hm => (List.mem_append.1 hm).elim (one.1 n p) (i1 n p), fun n hm => (List.mem_append.1 hm).elim (one.2 n) (i2 n)⟩
theorem lent_all {fr S rv st a w} (h0 : Rel0 fr S rv st a w) {xs : List V} {ins : List D} {l : Lt} (h : Lends st xs ins l) (hnd : (lentOf l).Nodup) : ∃ S1 S2 u, LentAll fr S rv st w l S1 S2 u := by
  obtain ⟨h1, h2⟩ := lend_slots h0 xs ins l h
  have key : ∀ n, ∃ q : (Nat → Prop) × (Nat → Prop) × Value, ∀ p, (n, some p) ∈ l → ∃ r c, LentOK fr S rv st w n p q.1 q.2.1 q.2.2 r c := by
    intro n
    by_cases hp : ∃ p, (n, some p) ∈ l
    · obtain ⟨p, hp⟩ := hp
      obtain ⟨S1, S2, u, r, c, hl⟩ := h1 n p hp
      refine ⟨(S1, S2, u), fun p' hp' => ?_⟩
      have := lent_unique l hnd n p p' hp hp'
      subst this
      exact ⟨r, c, hl⟩
    · exact ⟨(fun _ => False, fun _ => False, undef), fun p hp' => absurd ⟨p, hp'⟩ hp⟩
  refine ⟨fun n => (Classical.choose (key n)).1, fun n => (Classical.choose (key n)).2.1, fun n => (Classical.choose (key n)).2.2, fun n p hp => Classical.choose_spec (key n) p hp, h2⟩
end Go.Eng

set_option linter.unusedSimpArgs false
set_option linter.unusedVariables false
namespace Go.Eng
open Go.RowKit
variable {P : Program} {T : Nat → Option TI} {N : Nat}

theorem isOwn_one {w Z c v S} (hr : RV w Z c v S) (h : c.isOwn = true) : v.oneCell' = true ∧ c.isAg = false := by
  cases c with
  | sl f k es =>
    simp [PV.isOwn] at h; subst h
    rw [RV_ow] at hr
    rcases hr with ⟨rfl, _⟩ | ⟨b, cap, cur, ty, rfl, _⟩ <;> exact ⟨rfl, rfl⟩
  | _ => simp [PV.isOwn] at h

theorem lend_ins {fr S rv st a w} (h0 : Rel0 fr S rv st a w) {L : Lt} {S1 S2 : Nat → Nat → Prop} {u : Nat → Value} (hL : LentAll fr S rv st w L S1 S2 u) {Zc : Nat → Prop} (hX : ∀ b, fr.X b → Zc b) (hZ : ∀ n b, (n, none) ∈ L → S n b → Zc b) :
    ∀ (xs : List V) (vs : List Value) (ins : List D) (l : Lt), VRs w fr.X st.σ rv xs vs → Lends st xs ins l → (∀ s ∈ l, s ∈ L) → (lentOf l).Nodup → DRs w Zc ins vs (fun b => ∃ n ∈ lentOf l, S1 n b) := by
  have hdis : ∀ n m p q b, (n, some p) ∈ L → (m, some q) ∈ L → n ≠ m → S1 n b → S1 m b → False := by
    intro n m p q b h1 h2 hne hb hb'
    obtain ⟨r, c, k1⟩ := hL.all n p h1
    obtain ⟨r', c', k2⟩ := hL.all m q h2
    exact h0.sdis n m r r' b k1.σ k2.σ hne (k1.sep.1 b hb) (k2.sep.1 b hb')
  have mem : ∀ l : Lt, (∀ s ∈ l, s ∈ L) → ∀ n ∈ lentOf l, ∃ p, (n, some p) ∈ L := by
    intro l hl n hn
    obtain ⟨⟨m, q⟩, hs, e⟩ := List.mem_filterMap.1 hn
    cases q with
    | none => simp at e
    | some p => simp at e; subst e; exact ⟨p, hl _ hs⟩
  have sep : ∀ l1 l2 : Lt, (∀ s ∈ l1 ++ l2, s ∈ L) → (lentOf (l1 ++ l2)).Nodup → Sep (fun b => ∃ n ∈ lentOf (l1 ++ l2), S1 n b) (fun b => ∃ n ∈ lentOf l1, S1 n b) (fun b => ∃ n ∈ lentOf l2, S1 n b) := by
    intro l1 l2 hl hnd
    rw [lentOf_append] at hnd ⊢
    rw [List.nodup_append] at hnd
    refine ⟨fun b ⟨n, hn, hb⟩ => ⟨n, List.mem_append.2 (.inl hn), hb⟩, fun b ⟨n, hn, hb⟩ => ⟨n, List.mem_append.2 (.inr hn), hb⟩, ?_⟩
    rintro b ⟨n, hn, hb⟩ ⟨m, hm, hb'⟩
    obtain ⟨p, hp⟩ := mem l1 (fun s hs => hl s (List.mem_append.2 (.inl hs))) n hn
    obtain ⟨q, hq⟩ := mem l2 (fun s hs => hl s (List.mem_append.2 (.inr hs))) m hm
    exact hdis n m p q b hp hq (hnd.2.2 n hn m hm) hb hb'
  have cell : ∀ (x : V) (v : Value) (c : PV) (l : Lt), VR w fr.X st.σ rv x v → LendC st x c l → (∀ s ∈ l, s ∈ L) → RV w Zc c v (fun b => ∃ n ∈ lentOf l, S1 n b) := by
    intro x v c l hx hl hm
    cases x with
    | c t =>
      obtain ⟨rfl, rfl⟩ := hl
      rw [VR_c] at hx
      exact RV_congr (fun _ _ => rfl) hX _ v _ _ (fun _ _ => rfl) (fun _ h => h.elim) hx
    | nl =>
      obtain ⟨⟨f, k, rfl⟩, rfl⟩ := hl
      rw [VR_nl] at hx; subst hx
      cases f
      · rw [RV_ow]; exact .inl ⟨rfl, rfl⟩
      · rw [RV_fz]; exact ⟨none, 0, rfl, by simp, .inl rfl⟩
    | rf n p =>
      obtain ⟨r, m, hσ, hg, hh⟩ := hl
      rw [VR_rf] at hx
      obtain ⟨r1, hr1, hat, f, k, es, hg'⟩ := hx
      rw [hσ] at hr1; cases hr1
      rw [hg] at hg'; cases hg'
      rcases hh with ⟨rfl, rfl⟩ | ⟨rfl, how, hown, rfl⟩
      · obtain ⟨S', hr, hsub⟩ := rAt_slice (h0.rr n r hσ) hg hat
        exact RV_frz _ v S' _ (fun b hb => hb.elim (hX b) (fun hb => hZ n b (hm _ (by simp)) (hsub b hb))) hr
      · obtain ⟨r', c', hk⟩ := hL.all n p (hm _ (by simp))
        have e1 := hk.σ; rw [hσ] at e1; cases e1
        have e2 := hk.get; rw [hg] at e2; cases e2
        have e3 : rAt w r (rv n) p = some (u n) := hk.val.elim (fun h => by simp [PV.isAg] at h) (fun h => h.2)
        rw [hat] at e3; simp only [Option.some.injEq] at e3
        rw [e3]
        exact RV_congr (fun _ _ => rfl) hX _ _ (S1 n) _ (fun _ _ => rfl) (fun b hb => ⟨n, by simp [lentOf], hb⟩) hk.slot
    | rn n p s =>
      obtain ⟨r, m, lo, hi, k, es, rfl, hσ, hg, hfz, rfl, rfl⟩ := hl
      rw [VR_rn] at hx
      obtain ⟨u, hu, A, n0, cap, rfl, hc, hlo, hhi, rfl⟩ := hx
      rw [VR_rf] at hu
      obtain ⟨r1, hr1, hat, f, k', es', hg'⟩ := hu
      rw [hσ] at hr1; cases hr1
      rw [hg] at hg'; cases hg'
      obtain ⟨S', hr, hsub⟩ := rAt_slice (h0.rr n r hσ) hg hat
      have hz := RV_frz (Z' := Zc) _ _ S' (fun b => ∃ n ∈ lentOf [((n : Nat), (none : Option (List Nat)))], S1 n b) (fun b hb => hb.elim (hX b) (fun hb => hZ n b (hm _ (by simp)) (hsub b hb))) hr
      rw [hfz, RV_fz] at hz
      obtain ⟨A1, cap1, e, hc1, hA⟩ := hz
      simp only [Value.slice.injEq] at e
      obtain ⟨rfl, rfl, rfl⟩ := e
      rw [RV_fz]
      have hlen : ((es.drop lo).take (hi - lo)).length = hi - lo := by simp only [List.length_take, List.length_drop]; omega
      refine ⟨_, _, by rw [hlen], by rw [hlen]; omega, ?_⟩
      rw [hlen]
      by_cases hz : hi - lo = 0
      · exact .inl hz
      · right
        obtain ⟨b1, o1, rfl, hb1, he⟩ := hA.resolve_left (by omega)
        have hne : ¬ (cap = lo) := by omega
        rw [if_neg hne]
        exact ⟨b1, o1 + lo * k, by simp [add_none], hb1, RE_take _ _ _ _ _ (RE_drop _ es b1 o1 he (by omega))⟩
    | _ => simp [LendC] at hl
  have cells : ∀ (xs : List V) (vs : List Value) (cs : List PV) (l : Lt), VRs w fr.X st.σ rv xs vs → LendCs st xs cs l → (∀ s ∈ l, s ∈ L) → (lentOf l).Nodup → SlotRs w Zc cs vs (fun b => ∃ n ∈ lentOf l, S1 n b) ∧ (∀ c ∈ cs, c.isAg = false) ∧ (∀ u ∈ vs, u.oneCell' = true) := by
    intro xs
    induction xs with
    | nil => intro vs cs l hx h hm hnd; cases cs <;> simp [LendCs] at h; subst h; rw [VRs_nil] at hx; subst hx; exact ⟨rfl, by simp, by simp⟩
    | cons x xs ih =>
      intro vs cs l hx h hm hnd
      cases cs with
      | nil => simp [LendCs] at h
      | cons c cs =>
        obtain ⟨l1, l2, rfl, hone, h1, h2⟩ := h
        rw [VRs_cons] at hx
        obtain ⟨v, vs', rfl, hx1, hx2⟩ := hx
        have hnd' := hnd; rw [lentOf_append, List.nodup_append] at hnd'
        obtain ⟨i1, i2, i3⟩ := ih vs' cs l2 hx2 h2 (fun s hs => hm s (List.mem_append.2 (.inr hs))) hnd'.2.1
        have hc := cell x v c l1 hx1 h1 (fun s hs => hm s (List.mem_append.2 (.inl hs)))
        have hag : c.isAg = false := by cases c <;> first | rfl | (rw [RV_ag] at hc; exact hc.elim)
        refine ⟨⟨v, vs', _, _, rfl, sep l1 l2 hm hnd, by cases c <;> first | exact hc | simp [PV.isAg] at hag, i1⟩, fun c' hc' => ?_, fun u' hu' => ?_⟩
        · exact (List.mem_cons.1 hc').elim (fun e => e ▸ hag) (i2 c')
        · exact (List.mem_cons.1 hu').elim (fun e => e ▸ one_cell h0 hx1 hone) (i3 u')
  have boxes : ∀ (xs : List V) (vs : List Value) (css : List (List PV)) (l : Lt), VRs w fr.X st.σ rv xs vs → LendBs st xs css l → (∀ s ∈ l, s ∈ L) → (lentOf l).Nodup → SlotRs w Zc (css.map .ag) vs (fun b => ∃ n ∈ lentOf l, S1 n b) := by
    intro xs
    induction xs with
    | nil => intro vs css l hx h hm hnd; cases css <;> simp [LendBs] at h; rw [VRs_nil] at hx; subst hx; rfl
    | cons x xs ih =>
      intro vs css l hx h hm hnd
      cases css with
      | nil => simp [LendBs] at h
      | cons cs css =>
        obtain ⟨n, l2, rfl, hσ, rfl, h2⟩ := h
        rw [VRs_cons] at hx
        obtain ⟨v, vs', rfl, hx1, hx2⟩ := hx
        have hnd' := hnd; rw [lentOf_append, List.nodup_append] at hnd'
        refine ⟨v, vs', _, _, rfl, sep [(n, some [])] l2 hm hnd, ?_, ih vs' css l2 hx2 h2 (fun s hs => hm s (List.mem_append.2 (.inr hs))) hnd'.2.1⟩
        obtain ⟨r', c', hk⟩ := hL.all n [] (hm _ (by simp))
        have e1 := hk.σ; rw [hσ] at e1; cases e1
        have e2 := hk.get; simp only [Root.node, PV.get, Option.some.injEq] at e2; subst e2
        have e3 : u n = rv n := hk.val.elim (fun h => h.2.2) (fun h => by simp [PV.isAg] at h)
        rw [VR_pt] at hx1
        obtain ⟨r1, b, o', hr1, hl, rfl⟩ := hx1
        rw [hσ] at hr1; cases hr1
        have hslot := hk.slot
        have hrr : RR w fr.X (.bx cs) (u n) (S1 n) := hslot
        have hv : (Value.pointer (some ⟨b, o' + 0, none⟩)) = u n := by
          rw [e3]
          obtain ⟨b1, cur, ty, hvv, _⟩ := h0.rr n _ hσ
          rw [hvv] at hl ⊢
          simp only [rLoc, locate, Option.some.injEq, Prod.mk.injEq] at hl
          rw [hl.1, ← hl.2]
        rw [hv]
        exact RR_congr (fun _ _ => rfl) hX (fun _ _ => rfl) (fun b hb => ⟨n, by simp [lentOf], hb⟩) hrr
  intro xs
  induction xs with
  | nil => intro vs ins l hx h hm hnd; cases ins <;> simp [Lends] at h; rw [VRs_nil] at hx; subst hx; rfl
  | cons x xs ih =>
    intro vs ins l hx h hm hnd
    cases ins with
    | nil => simp [Lends] at h
    | cons d ds =>
      obtain ⟨l1, l2, rfl, h1, h2⟩ := h
      rw [VRs_cons] at hx
      obtain ⟨v, vs', rfl, hx1, hx2⟩ := hx
      have hnd' := hnd; rw [lentOf_append, List.nodup_append] at hnd'
      have hm1 : ∀ s ∈ l1, s ∈ L := fun s hs => hm s (List.mem_append.2 (.inl hs))
      refine ⟨v, vs', _, _, rfl, sep l1 l2 hm hnd, ?_, ih vs' ds l2 hx2 h2 (fun s hs => hm s (List.mem_append.2 (.inr hs))) hnd'.2.1⟩
      cases d with
      | v c => have h1 : LendC st x c l1 := by cases x <;> exact h1
               exact cell x v c l1 hx1 h1 hm1
      | g cs =>
        cases x with
        | g xs' =>
          rw [VR_g] at hx1
          obtain ⟨arr, rfl, hx1⟩ := hx1
          obtain ⟨c1, c2, c3⟩ := cells xs' arr.toList cs l1 hx1 h1 hm1 hnd'.1
          exact ⟨arr, rfl, c1, c2, c3⟩
        | _ => simp [Lend] at h1
      | p cs =>
        have h1 : LendBs st [x] [cs] l1 := by cases x <;> exact h1
        have := boxes [x] [v] [cs] l1 (by rw [VRs_cons]; exact ⟨v, [], rfl, hx1, by rw [VRs_nil]⟩) h1 hm1 hnd'.1
        obtain ⟨v', vs'', T1, T2, e, hsep, hs, _⟩ := this
        simp only [List.cons.injEq] at e
        obtain ⟨rfl, rfl⟩ := e
        exact RR_congr (w := w) (w' := w) (Z := Zc) (Z' := Zc) (r := .bx cs) (v := v) (S := T1) (fun _ _ => rfl) (fun _ h => h) (fun _ _ => rfl) hsep.1 hs
      | f f' css =>
        cases x with
        | fn f xs' =>
          rw [VR_fn] at hx1
          obtain ⟨arr, rfl, hx1⟩ := hx1
          obtain ⟨rfl, h1⟩ := h1
          exact ⟨arr, rfl, boxes xs' arr.toList css l1 hx1 h1 hm1 hnd'.1⟩
        | _ => simp [Lend] at h1
      | x => trivial

def Backed (w' : World) (Z' : Nat → Prop) (u : Nat → Value) (U : Up) (S' : Nat → Prop) : Prop :=
  ∃ S1' : Nat → Nat → Prop, (∀ n b, S1' n b → S' b ∧ n ∈ U.map (·.1)) ∧ (∀ n m b, n ≠ m → S1' n b → S1' m b → False) ∧ ∀ q ∈ U, SlotR w' Z' q.2.2 (u q.1) (S1' q.1)
theorem Backed.nil {w' Z' u S'} : Backed w' Z' u [] S' := ⟨fun _ _ => False, by simp, fun _ _ _ _ h => h.elim, by simp⟩
theorem Backed.append {w' Z' u U1 U2 S' T1 T2} (hsep : Sep S' T1 T2) (h1 : Backed w' Z' u U1 T1) (h2 : Backed w' Z' u U2 T2) (hnd : ((U1 ++ U2).map (·.1)).Nodup) : Backed w' Z' u (U1 ++ U2) S' := by
  obtain ⟨A, a1, a2, a3⟩ := h1
  obtain ⟨B, b1, b2, b3⟩ := h2
  rw [List.map_append, List.nodup_append] at hnd
  refine ⟨fun n b => A n b ∨ B n b, ?_, ?_, ?_⟩
  · rintro n b (h | h)
    · exact ⟨hsep.1 b (a1 n b h).1, by rw [List.map_append]; exact List.mem_append.2 (.inl (a1 n b h).2)⟩
    · exact ⟨hsep.2.1 b (b1 n b h).1, by rw [List.map_append]; exact List.mem_append.2 (.inr (b1 n b h).2)⟩
  · rintro n m b hne (h | h) (h' | h')
    · exact a2 n m b hne h h'
    · exact hsep.2.2 b (a1 n b h).1 (b1 m b h').1
    · exact hsep.2.2 b (a1 m b h').1 (b1 n b h).1
    · exact b2 n m b hne h h'
  · intro q hq
    rcases List.mem_append.1 hq with hq | hq
    · exact SlotR_mono (fun _ h => .inl h) (a3 q hq)
    · exact SlotR_mono (fun _ h => .inr h) (b3 q hq)
theorem Backed.one {w' Z' u n p c S'} (h : SlotR w' Z' c (u n) S') : Backed w' Z' u [(n, p, c)] S' := by
  refine ⟨fun m b => m = n ∧ S' b, fun m b h => ⟨h.2, by simp [h.1]⟩, fun m m' b hne h h' => hne (h.1.trans h'.1.symm), ?_⟩
  intro q hq
  simp at hq; subst hq
  exact SlotR_mono (fun _ h => ⟨rfl, h⟩) h
theorem Backed.mono {w' Z' u U S' S''} (hS : ∀ x, S' x → S'' x) (h : Backed w' Z' u U S') : Backed w' Z' u U S'' := by
  obtain ⟨A, a1, a2, a3⟩ := h
  exact ⟨A, fun n b hh => ⟨hS b (a1 n b hh).1, (a1 n b hh).2⟩, a2, a3⟩

theorem slots_xx {w Z} : ∀ (cs : List PV) (vs : List Value) (S : Nat → Prop), vs.length = cs.length → SlotRs w Z (cs.map fun _ => PV.xx) vs S
  | [], vs, S, h => by
    have : vs = [] := List.length_eq_zero_iff.1 (by simpa using h)
    exact this
  | c :: cs, [], S, h => by simp at h
  | c :: cs, v :: vs, S, h => ⟨v, vs, fun _ => False, fun _ => False, rfl, ⟨fun _ h => h.elim, fun _ h => h.elim, fun _ h => h.elim⟩, (by show RV w Z .xx v (fun _ => False); rw [RV_xx]; trivial), slots_xx cs vs _ (by simpa using h)⟩
theorem VRs_len {w Z σ rv} : ∀ (xs : List V) (vs : List Value), VRs w Z σ rv xs vs → vs.length = xs.length
  | [], vs, h => by rw [VRs_nil] at h; subst h; rfl
  | x :: xs, vs, h => by rw [VRs_cons] at h; obtain ⟨v, vs', rfl, _, h⟩ := h; simp [VRs_len xs vs' h]
theorem LendCs_len {st} : ∀ (xs : List V) (cs : List PV) (l : Lt), LendCs st xs cs l → xs.length = cs.length
  | [], [], l, h => rfl
  | x :: xs, c :: cs, l, h => by obtain ⟨l1, l2, _, _, _, h⟩ := h; simp [LendCs_len xs cs l2 h]
  | [], _ :: _, l, h => by simp [LendCs] at h
  | _ :: _, [], l, h => by simp [LendCs] at h
theorem lend_outs {fr S rv st a w w'} (h0 : Rel0 fr S rv st a w) {L : Lt} {S1 S2 : Nat → Nat → Prop} {u : Nat → Value} (hL : LentAll fr S rv st w L S1 S2 u) {Z' : Nat → Prop} :
    ∀ (xs : List V) (vs : List Value) (ins outs : List D) (l : Lt) (S' : Nat → Prop), VRs w fr.X st.σ rv xs vs → Lends st xs ins l → (∀ s ∈ l, s ∈ L) → DRs w' Z' outs vs S' → ((backs xs ins outs).map (·.1)).Nodup →
      Backed w' Z' u (backs xs ins outs) S' := by
  have cell : ∀ (x : V) (v : Value) (c c' : PV) (l : Lt) (S' : Nat → Prop), VR w fr.X st.σ rv x v → LendC st x c l → (∀ s ∈ l, s ∈ L) → RV w' Z' c' v S' → Backed w' Z' u (backC x c c') S' := by
    intro x v c c' l S' hx hl hm hr
    cases x with
    | rf n p =>
      cases c with
      | sl f k es =>
        cases f with
        | true => exact Backed.nil
        | false =>
          obtain ⟨r, m, hσ, hg, hh⟩ := hl
          rcases hh with ⟨e, rfl⟩ | ⟨e, how, hown, rfl⟩
          · exfalso
            cases m <;> simp [PV.frz] at e
          · obtain ⟨r', c0, hk⟩ := hL.all n p (hm _ (by simp))
            have e1 := hk.σ; rw [hσ] at e1; cases e1
            have e2 := hk.get; rw [hg] at e2; cases e2
            subst e
            have e3 : rAt w r (rv n) p = some (u n) := hk.val.elim (fun h => by simp [PV.isAg] at h) (fun h => h.2)
            rw [VR_rf] at hx
            obtain ⟨r1, hr1, hat, _⟩ := hx
            rw [hσ] at hr1; cases hr1
            rw [hat] at e3; simp only [Option.some.injEq] at e3
            subst e3
            refine Backed.one ?_
            cases c' <;> first | exact hr | (rw [RV_ag] at hr; exact hr.elim)
      | _ => exact Backed.nil
    | _ => exact Backed.nil
  have cells : ∀ (xs : List V) (vs : List Value) (cs cs' : List PV) (l : Lt) (S' : Nat → Prop), VRs w fr.X st.σ rv xs vs → LendCs st xs cs l → (∀ s ∈ l, s ∈ L) → SlotRs w' Z' cs' vs S' → (∀ c ∈ cs', c.isAg = false) → ((backCs xs cs cs').map (·.1)).Nodup → Backed w' Z' u (backCs xs cs cs') S' := by
    intro xs
    induction xs with
    | nil => intro vs cs cs' l S' hx h hm hr ha hnd; exact Backed.nil
    | cons x xs ih =>
      intro vs cs cs' l S' hx h hm hr ha hnd
      cases cs with
      | nil => exact Backed.nil
      | cons c cs =>
        cases cs' with
        | nil => exact Backed.nil
        | cons c' cs' =>
          obtain ⟨l1, l2, rfl, hone, h1, h2⟩ := h
          rw [VRs_cons] at hx
          obtain ⟨v, vs', rfl, hx1, hx2⟩ := hx
          obtain ⟨v2, vs2, T1, T2, e, hsep, hr1, hr2⟩ := hr
          simp only [List.cons.injEq] at e
          obtain ⟨rfl, rfl⟩ := e
          simp only [backCs] at hnd ⊢
          have hnd' := hnd; rw [List.map_append, List.nodup_append] at hnd'
          have hac := ha c' (by simp)
          exact Backed.append hsep (cell x v c c' l1 T1 hx1 h1 (fun s hs => hm s (List.mem_append.2 (.inl hs))) (by cases c' <;> first | exact hr1 | simp [PV.isAg] at hac))
            (ih vs' cs cs' l2 T2 hx2 h2 (fun s hs => hm s (List.mem_append.2 (.inr hs))) hr2 (fun c'' hc => ha c'' (List.mem_cons_of_mem _ hc)) hnd'.2.1) hnd
  have boxes : ∀ (xs : List V) (vs : List Value) (css css' : List (List PV)) (l : Lt) (S' : Nat → Prop), VRs w fr.X st.σ rv xs vs → LendBs st xs css l → (∀ s ∈ l, s ∈ L) → SlotRs w' Z' (css'.map .ag) vs S' → ((backBs xs css').map (·.1)).Nodup → Backed w' Z' u (backBs xs css') S' := by
    intro xs
    induction xs with
    | nil => intro vs css css' l S' hx h hm hr hnd; exact Backed.nil
    | cons x xs ih =>
      intro vs css css' l S' hx h hm hr hnd
      cases css with
      | nil => simp [LendBs] at h
      | cons cs css =>
        obtain ⟨n, l2, rfl, hσ, rfl, h2⟩ := h
        cases css' with
        | nil => exact Backed.nil
        | cons cs' css' =>
          rw [VRs_cons] at hx
          obtain ⟨v, vs', rfl, hx1, hx2⟩ := hx
          obtain ⟨v2, vs2, T1, T2, e, hsep, hr1, hr2⟩ := hr
          simp only [List.cons.injEq] at e
          obtain ⟨rfl, rfl⟩ := e
          simp only [backBs] at hnd ⊢
          have hnd' := hnd; rw [List.map_append, List.nodup_append] at hnd'
          obtain ⟨r', c', hk⟩ := hL.all n [] (hm _ (by simp))
          have e1 := hk.σ; rw [hσ] at e1; cases e1
          have e2 := hk.get; simp only [Root.node, PV.get, Option.some.injEq] at e2; subst e2
          have e3 : u n = rv n := hk.val.elim (fun h => h.2.2) (fun h => by simp [PV.isAg] at h)
          rw [VR_pt] at hx1
          obtain ⟨r1, b, o', hrr1, hl, rfl⟩ := hx1
          rw [hσ] at hrr1; cases hrr1
          have hv : (Value.pointer (some ⟨b, o' + 0, none⟩)) = u n := by
            rw [e3]
            obtain ⟨b1, cur, ty, hvv, _⟩ := h0.rr n _ hσ
            rw [hvv] at hl ⊢
            simp only [rLoc, locate, Option.some.injEq, Prod.mk.injEq] at hl
            rw [hl.1, ← hl.2]
          rw [hv] at hr1
          exact Backed.append hsep (Backed.one hr1) (ih vs' css css' l2 T2 hx2 h2 (fun s hs => hm s (List.mem_append.2 (.inr hs))) hr2 hnd'.2.1) hnd
  intro xs
  induction xs with
  | nil => intro vs ins outs l S' hx h hm hr hnd; exact Backed.nil
  | cons x xs ih =>
    intro vs ins outs l S' hx h hm hr hnd
    cases ins with
    | nil => exact Backed.nil
    | cons d ds =>
      cases outs with
      | nil => exact Backed.nil
      | cons d' ds' =>
        obtain ⟨l1, l2, rfl, h1, h2⟩ := h
        rw [VRs_cons] at hx
        obtain ⟨v, vs', rfl, hx1, hx2⟩ := hx
        obtain ⟨v2, vs2, T1, T2, e, hsep, hr1, hr2⟩ := hr
        simp only [List.cons.injEq] at e
        obtain ⟨rfl, rfl⟩ := e
        simp only [backs] at hnd ⊢
        have hnd' := hnd; rw [List.map_append, List.nodup_append] at hnd'
        have hm1 : ∀ s ∈ l1, s ∈ L := fun s hs => hm s (List.mem_append.2 (.inl hs))
        refine Backed.append hsep ?_ (ih vs' ds ds' l2 T2 hx2 h2 (fun s hs => hm s (List.mem_append.2 (.inr hs))) hr2 hnd'.2.1) hnd
        cases d with
        | v c =>
          have h1 : LendC st x c l1 := by cases x <;> exact h1
          cases d' with
          | v c' => have : back x (.v c) (.v c') = backC x c c' := by cases x <;> rfl
                    rw [this]; exact cell x v c c' l1 T1 hx1 h1 hm1 hr1
          | x => have : back x (.v c) .x = backC x c .xx := by cases x <;> rfl
                 rw [this]; exact cell x v c .xx l1 T1 hx1 h1 hm1 (by rw [RV_xx]; trivial)
          | _ => have : ∀ d', back x (.v c) d' = [] ∨ True := fun _ => .inr trivial
                 cases x <;> exact Backed.nil
        | g cs =>
          cases x with
          | g xs' =>
            cases d' with
            | g cs' =>
              rw [VR_g] at hx1
              obtain ⟨arr, rfl, hx1⟩ := hx1
              obtain ⟨arr', e, hs, ha, _⟩ := hr1
              simp only [Value.agg.injEq] at e; subst e
              exact cells xs' arr.toList cs cs' l1 T1 hx1 h1 hm1 hs ha hnd'.1
            | x =>
              rw [VR_g] at hx1
              obtain ⟨arr, rfl, hx1⟩ := hx1
              exact cells xs' arr.toList cs (cs.map fun _ => .xx) l1 T1 hx1 h1 hm1 (slots_xx cs arr.toList T1 (by rw [VRs_len _ _ hx1, LendCs_len _ _ _ h1])) (by simp [PV.isAg]) hnd'.1
            | _ => exact Backed.nil
          | _ => simp [Lend] at h1
        | p cs =>
          have h1 : LendBs st [x] [cs] l1 := by cases x <;> exact h1
          cases d' with
          | p cs' =>
            have e : back x (.p cs) (.p cs') = backBs [x] [cs'] := by cases x <;> rfl
            rw [e] at hnd' ⊢
            exact boxes [x] [v] [cs] [cs'] l1 T1 (by rw [VRs_cons]; exact ⟨v, [], rfl, hx1, by rw [VRs_nil]⟩) h1 hm1 ⟨v, [], T1, fun _ => False, rfl, ⟨fun _ h => h, fun _ h => h.elim, fun _ _ h => h⟩, hr1, rfl⟩ hnd'.1
          | _ => cases x <;> exact Backed.nil
        | f f' css =>
          cases x with
          | fn f xs' =>
            cases d' with
            | f f2 css' =>
              rw [VR_fn] at hx1
              obtain ⟨arr, rfl, hx1⟩ := hx1
              obtain ⟨arr', e, hs⟩ := hr1
              simp only [Value.func.injEq] at e
              obtain ⟨_, _, rfl⟩ := e
              exact boxes xs' arr.toList css css' l1 T1 hx1 h1.2 hm1 hs hnd'.1
            | _ => exact Backed.nil
          | _ => simp [Lend] at h1
        | x => cases x <;> cases d' <;> exact Backed.nil
end Go.Eng

set_option linter.unusedSimpArgs false
set_option linter.unusedVariables false
namespace Go.Eng
open Go.RowKit
variable {P : Program} {T : Nat → Option TI} {N : Nat}

theorem PV.get_set_same : ∀ (p : List Nat) (t c m : PV), t.get p = some m → (t.set p c).get p = some c
  | [], t, c, m, h => rfl
  | i :: p, .ag cs, c, m, h => by
    simp only [PV.get] at h
    cases hi : cs[i]? with
    | none => simp [hi] at h
    | some d =>
      have hlt : i < cs.length := by rcases Nat.lt_or_ge i cs.length with h | h; exact h; simp [List.getElem?_eq_none h] at hi
      simp only [hi, Option.bind_some] at h
      simp only [PV.set, PV.get, List.getElem?_set_self hlt, hi, Option.getD_some, Option.bind_some]
      exact PV.get_set_same p d c m h
  | i :: p, .sl f k cs, c, m, h => by
    simp only [PV.get] at h
    cases hi : cs[i]? with
    | none => simp [hi] at h
    | some d =>
      have hlt : i < cs.length := by rcases Nat.lt_or_ge i cs.length with h | h; exact h; simp [List.getElem?_eq_none h] at hi
      simp only [hi, Option.bind_some] at h
      simp only [PV.set, PV.get, List.getElem?_set_self hlt, hi, Option.getD_some, Option.bind_some]
      exact PV.get_set_same p d c m h
  | i :: p, .sc _, c, m, h => by simp [PV.get] at h
  | i :: p, .xx, c, m, h => by simp [PV.get] at h
theorem put_get {r : Root} {p : List Nat} {c : PV} {f k es} (hg : r.node.get p = some (.sl f k es)) (hc : c.isAg = false) : (r.put p c).node.get p = some c := by
  cases p with
  | nil =>
    cases r with
    | bx cs => simp [Root.node, PV.get] at hg
    | sv t => rfl
  | cons i p => rw [Root.node_put (by simp)]; exact PV.get_set_same _ _ _ _ hg

def UpOK (st : St) (q : Nat × List Nat × PV) : Prop :=
  match st.σ q.1 with
  | some (.bx _) => if q.2.1 = [] then q.2.2.isAg = true else (q.2.2.isOwn = true ∨ q.2.2.isXX = true)
  | some (.sv _) => q.2.2.isOwn = true ∨ q.2.2.isXX = true
  | none => False
theorem own_sl {c : PV} (h : c.isOwn = true) : ∃ k es, c = .sl false k es := by
  cases c with
  | sl f k es => simp [PV.isOwn] at h; subst h; exact ⟨k, es, rfl⟩
  | _ => simp [PV.isOwn] at h
theorem xx_eq {c : PV} (h : c.isXX = true) : c = .xx := by cases c <;> simp_all [PV.isXX]
theorem lentOf_filter (L : Lt) : lentOf L = lentOf (L.filter fun s => s.2.isSome) := by
  unfold lentOf
  induction L with
  | nil => rfl
  | cons s l ih =>
    obtain ⟨n, q⟩ := s
    cases q <;> simp [List.filterMap_cons, List.filter_cons, ih]
theorem lentOf_map (ups : Up) : lentOf (ups.map (fun q => (q.1, some q.2.1))) = ups.map (·.1) := by
  unfold lentOf
  induction ups with
  | nil => rfl
  | cons q ups ih => simp only [List.map_cons, List.filterMap_cons, Option.map_some, ih]

theorem upOf_mem : ∀ {ups : Up} {m p c}, upOf ups m = some (p, c) → (m, p, c) ∈ ups
  | [], m, p, c, h => by simp [upOf] at h
  | (n, q, d) :: ups, m, p, c, h => by
    simp only [upOf] at h
    split at h
    · rename_i e; simp only [Option.some.injEq, Prod.mk.injEq] at h; obtain ⟨rfl, rfl⟩ := h; subst e; simp
    · exact List.mem_cons_of_mem _ (upOf_mem h)
theorem upOf_none : ∀ {ups : Up} {m}, upOf ups m = none → m ∉ ups.map (·.1)
  | [], m, h => by simp
  | (n, q, d) :: ups, m, h => by
    simp only [upOf] at h
    split at h
    · cases h
    · rename_i e
      simp only [List.map_cons, List.mem_cons, not_or]
      exact ⟨fun e' => e e'.symm, upOf_none h⟩
theorem upOf_some : ∀ {ups : Up} {m}, m ∈ ups.map (·.1) → ∃ p c, upOf ups m = some (p, c) := by
  intro ups m h
  cases e : upOf ups m with
  | none => exact absurd h (upOf_none e)
  | some q => exact ⟨q.1, q.2, rfl⟩

theorem Rel0.back {fr S rv st a w} (h : Rel0 fr S rv st a w) {w' : World} {L : Lt} {S1 S2 : Nat → Nat → Prop} {u : Nat → Value} (hL : LentAll fr S rv st w L S1 S2 u) {ups : Up} {S' : Nat → Prop}
    (hcov : ups.map (fun q => (q.1, some q.2.1)) = L.filter (fun s => s.2.isSome)) (hnd : (lentOf L).Nodup) (hok : ∀ q ∈ ups, UpOK st q) (hB : Backed w' fr.X u ups S')
    (hos : w'.os = w.os) (htape : TD w w') (hout : w'.output = w.output) (hsz : w.heap.size ≤ w'.heap.size)
    (hfr : ∀ b, b < w.heap.size → ¬ (∃ n ∈ lentOf L, S1 n b) → w'.heap[b]? = w.heap[b]?) (hS' : ∀ b, S' b → (∃ n ∈ lentOf L, S1 n b) ∨ (w.heap.size ≤ b ∧ b < w'.heap.size)) :
    ∃ S'' rv'', Rel0 fr S'' rv'' (st.back ups) a w' ∧ ∀ n r b, (st.back ups).σ n = some r → S'' n b → (b < w.heap.size ∧ ¬ ∃ n ∈ lentOf L, S1 n b) ∨ S' b := by
  obtain ⟨A, a1, a2, a3⟩ := hB
  have hlen : lentOf L = ups.map (·.1) := by rw [lentOf_filter, ← hcov, lentOf_map]
  have hmem : ∀ n, n ∈ lentOf L → ∃ p, (n, some p) ∈ L := by
    intro n hn
    obtain ⟨⟨m, q⟩, hs, e⟩ := List.mem_filterMap.1 hn
    cases q with
    | none => simp at e
    | some p => simp at e; subst e; exact ⟨p, hs⟩
  have hin : ∀ n p c, (n, p, c) ∈ ups → (n, some p) ∈ L := by
    intro n p c hq
    have : (n, some p) ∈ ups.map (fun q => (q.1, some q.2.1)) := List.mem_map.2 ⟨_, hq, rfl⟩
    rw [hcov] at this
    exact (List.mem_filter.1 this).1
  have hup : ∀ n, n ∈ lentOf L → ∃ p c r c0, upOf ups n = some (p, c) ∧ (n, p, c) ∈ ups ∧ LentOK fr S rv st w n p (S1 n) (S2 n) (u n) r c0 := by
    intro n hn
    rw [hlen] at hn
    obtain ⟨p, c, e⟩ := upOf_some hn
    obtain ⟨r, c0, hk⟩ := hL.all n p (hin n p c (upOf_mem e))
    exact ⟨p, c, r, c0, e, upOf_mem e, hk⟩
  have hun : ∀ n, n ∉ lentOf L → upOf ups n = none := by
    intro n hn
    cases e : upOf ups n with
    | none => rfl
    | some q => exact absurd (by rw [hlen]; exact List.mem_map.2 ⟨_, upOf_mem (p := q.1) (c := q.2) e, rfl⟩) hn
  have hS1 : ∀ n, n ∈ lentOf L → ∀ b, S1 n b → ∃ r, st.σ n = some r ∧ S n b := by
    intro n hn b hb
    obtain ⟨p, c, r, c0, _, _, hk⟩ := hup n hn
    exact ⟨r, hk.σ, hk.sep.1 b hb⟩
  have hY : Agr w w' fr.Y := by
    intro b hb
    refine hfr b (Nat.lt_of_lt_of_le (h.xlt b hb) h.size) ?_
    rintro ⟨n, hn, hS⟩
    obtain ⟨r, hr, hs⟩ := hS1 n hn b hS
    exact (h.sout n r b hr hs).2.1 hb
  have hX : Agr w w' fr.X := fun b hb => hY b (h.xy b hb)
  have hrest : ∀ n, n ∈ lentOf L → ∀ b, S2 n b → b < w.heap.size ∧ ¬ ∃ m ∈ lentOf L, S1 m b := by
    intro n hn b hb
    obtain ⟨p, c, r, c0, _, _, hk⟩ := hup n hn
    refine ⟨(h.sout n r b hk.σ (hk.sep.2.1 b hb)).1, ?_⟩
    rintro ⟨m, hm, hS⟩
    by_cases e : m = n
    · subst e; exact hk.sep.2.2 b hS hb
    · obtain ⟨r', hr', hs⟩ := hS1 m hm b hS
      exact h.sdis m n r' r b hr' hk.σ e hs (hk.sep.2.1 b hb)
  have hA2 : ∀ n, n ∈ lentOf L → Agr w w' (S2 n) := fun n hn b hb => hfr b (hrest n hn b hb).1 (hrest n hn b hb).2
  -- what a root is behind the call
  have hroot : ∀ n, n ∈ lentOf L → ∀ p c r c0, upOf ups n = some (p, c) → LentOK fr S rv st w n p (S1 n) (S2 n) (u n) r c0 → (n, p, c) ∈ ups → (c.isXX && p.isEmpty) = false →
      RR w' fr.X (r.put p c) (rv n) (fun x => A n x ∨ S2 n x) ∧
      (∀ p' x, rLoc w r (rv n) p' = some x → ¬ Ext p p' → rLoc w' (r.put p c) (rv n) p' = some x ∧
          (∀ m, r.node.get p' = some m → m.isAg = false → w'.cell? ⟨x.1, x.2, none⟩ = w.cell? ⟨x.1, x.2, none⟩)) := by
    intro n hn p c r c0 e hk hq hx
    have hko := hok _ hq
    simp only [UpOK, hk.σ] at hko
    have hkind : c.isAg = c0.isAg := by
      rcases hk.val with ⟨v1, v2, v3⟩ | ⟨v1, v2⟩
      · subst v2
        cases r with
        | bx cs => simp only [if_true] at hko; rw [hko, v1]
        | sv t =>
          exfalso
          have hg := hk.get
          simp only [Root.node, PV.get, Option.some.injEq] at hg; subst hg
          have := (h.rr n _ hk.σ).1
          cases t <;> simp_all [PV.isAg, PV.isOwn]
      · rw [v1]
        have nag : c.isOwn = true ∨ c.isXX = true → c.isAg = false := by
          rintro (hh | hh)
          · obtain ⟨k, es, rfl⟩ := own_sl hh; rfl
          · rw [xx_eq hh]; rfl
        cases r with
        | bx cs =>
          by_cases hp : p = []
          · subst hp
            have hg := hk.get
            simp only [Root.node, PV.get, Option.some.injEq] at hg; subst hg
            simp [PV.isAg] at v1
          · simp only [hp, if_false] at hko; exact nag hko
        | sv t => exact nag hko
    refine hk.back w' c (A n) hkind ?_ (hA2 n hn) hX (a3 _ hq) ?_
    · intro hp hc0
      subst hp
      cases r with
      | bx cs =>
        have hg := hk.get
        simp only [Root.node, PV.get, Option.some.injEq] at hg; subst hg
        simp [PV.isAg] at hc0
      | sv t =>
        rcases hko with hh | hh
        · exact hh
        · simp [hh] at hx
    · intro b hb hb2
      rcases hS' b (a1 n b hb).1 with ⟨m, hm, hS⟩ | hh
      · exact (hrest n hn b hb2).2 ⟨m, hm, hS⟩
      · have := (hrest n hn b hb2).1; omega
  refine ⟨fun n => if n ∈ lentOf L then (fun x => A n x ∨ S2 n x) else S n, rv, ?_, ?_⟩
  · refine h.change (C := fun n => n ∈ lentOf L) hos htape hout hsz hY ?_ ?_ ?_ (fun _ _ => rfl) ?_ ?_ ?_ ?_ (backP ups) (backQ ups) ?_ ?_ ?_ ?_
    · intro n r hc hr b hb
      refine hfr b (h.sout n r b hr hb).1 ?_
      rintro ⟨m, hm, hS⟩
      obtain ⟨r', hr', hs⟩ := hS1 m hm b hS
      exact h.sdis n m r r' b hr hr' (fun e => hc (e ▸ hm)) hb hs
    · intro n hc; simp [St.back, hun n hc]
    · intro n hc; simp [hc]
    · intro n r hc hr
      obtain ⟨p, c, r0, c0, e, hq, hk⟩ := hup n hc
      simp only [e, hk.σ, Option.bind_some] at hr
      split at hr
      · cases hr
      · rename_i hx
        simp only [Option.some.injEq] at hr; subst hr
        simpa [hc] using (hroot n hc p c r0 c0 e hk hq (by simpa using hx)).1
    · intro n r b hc hr hb
      simp only [hc, if_true] at hb
      rcases hb with hb | hb
      · rcases hS' b (a1 n b hb).1 with ⟨m, hm, hS⟩ | hh
        · obtain ⟨r', hr', hs⟩ := hS1 m hm b hS
          exact .inr ⟨m, r', hm, hr', hs⟩
        · exact .inl hh
      · obtain ⟨p, c, r0, c0, e, hq, hk⟩ := hup n hc
        exact .inr ⟨n, r0, hc, hk.σ, hk.sep.2.1 b hb⟩
    · intro n m r r' b hc hc' hr hr' hne hb hb'
      simp only [hc, hc', if_true] at hb hb'
      have cross : ∀ n m, n ∈ lentOf L → m ∈ lentOf L → A n b → S2 m b → False := by
        intro n m hn hm h1 h2
        rcases hS' b (a1 n b h1).1 with ⟨q, hq, hS⟩ | hh
        · exact (hrest m hm b h2).2 ⟨q, hq, hS⟩
        · have := (hrest m hm b h2).1; omega
      rcases hb with hb | hb <;> rcases hb' with hb' | hb'
      · exact a2 n m b hne hb hb'
      · exact cross n m hc hc' hb hb'
      · exact cross m n hc' hc hb' hb
      · obtain ⟨p, c, r0, c0, e, hq, hk⟩ := hup n hc
        obtain ⟨p', c', r0', c0', e', hq', hk'⟩ := hup m hc'
        exact h.sdis n m r0 r0' b hk.σ hk'.σ hne (hk.sep.2.1 b hb) (hk'.sep.2.1 b hb')
    · intro n r v hc hr hv
      obtain ⟨p, c, r0, c0, e, hq, hk⟩ := hup n hc
      exact h.rv0 n r0 v hk.σ hv
    · intro n q v hc hv
      obtain ⟨p, c, r0, c0, e, hq, hk⟩ := hup n hc
      simp only [backP, e]
      split
      · rename_i e2; split at e2
        · cases e2
        · rename_i hne
          simp only [Option.some.injEq, Prod.mk.injEq] at e2
          obtain ⟨rfl, rfl⟩ := e2
          simp only [Bool.or_eq_true, Bool.and_eq_true, not_or, not_and] at hne
          rw [VR_rf] at hv ⊢
          obtain ⟨r1, hr1, hat, f, k, es, hg⟩ := hv
          rw [hk.σ] at hr1; cases hr1
          have hxx : (c.isXX && p.isEmpty) = false := by
            cases hcx : c.isXX with
            | false => rfl
            | true =>
              simp only [Bool.true_and]
              have := hne.2 hcx
              cases p with
              | nil => exact absurd (pre_iff.2 List.nil_prefix) this
              | cons i p => rfl
          obtain ⟨hR, hLc⟩ := hroot n hc p c r0 c0 e hk hq hxx
          have hnext : ¬ Ext p q := fun hh => hne.1 (ext_iff.2 hh)
          have hσ' : (match upOf ups n with | some (p, c) => (st.σ n).bind fun r => if (c.isXX && p.isEmpty) = true then none else some (r.put p c) | none => st.σ n) = some (r0.put p c) := by
            simp only [e, hk.σ, Option.bind_some, hxx, Bool.false_eq_true, if_false]
          have hnode : ∃ f k es, (r0.put p c).node.get q = some (.sl f k es) := by
            by_cases hqp : q = p
            · subst hqp
              have hko := hok _ hq
              simp only [UpOK, hk.σ] at hko
              have hcs : c.isOwn = true ∨ c.isXX = true := by
                cases r0 with
                | bx cs0 =>
                  by_cases hp : q = []
                  · subst hp; simp [Root.node, PV.get] at hg
                  · simpa only [hp, if_false] using hko
                | sv t => exact hko
              rcases hcs with hcs | hcs
              · obtain ⟨k', es', rfl⟩ := own_sl hcs
                exact ⟨false, k', es', put_get hg rfl⟩
              · exact absurd (pre_iff.2 (List.prefix_refl _)) (hne.2 hcs)
            · have hnp : ¬ p <+: q := fun hh => hnext ⟨hh, hqp⟩
              have hp0 : p ≠ [] := fun e => hnp (e ▸ List.nil_prefix)
              obtain ⟨es', hg'⟩ := PV.get_set_sl p q r0.node c f k es hnp hg
              exact ⟨f, k, es', by rw [Root.node_put hp0]; exact hg'⟩
          refine ⟨r0.put p c, hσ', ?_, hnode⟩
          by_cases hp0 : q = [] ∧ ∃ t, r0 = .sv t
          · obtain ⟨rfl, t, rfl⟩ := hp0
            simp only [rAt, Option.some.injEq] at hat
            subst hat
            cases p <;> rfl
          · have hl : ∃ x, rLoc w r0 (rv n) q = some x ∧ w.cell? ⟨x.1, x.2, none⟩ = some v := by
              cases r0 with
              | bx cs => simpa [rAt, Option.bind_eq_some_iff] using hat
              | sv t =>
                cases q with
                | nil => exact absurd ⟨rfl, t, rfl⟩ hp0
                | cons i q => simpa [rAt, Option.bind_eq_some_iff] using hat
            obtain ⟨x, hl, hx⟩ := hl
            obtain ⟨h1, h2⟩ := hLc q x hl hnext
            rw [rAt_of_rLoc h1]
            rw [h2 _ hg rfl]; exact hx
      · trivial
    · intro n q o v hc hv
      obtain ⟨p, c, r0, c0, e, hq, hk⟩ := hup n hc
      simp only [backQ, e]
      split
      · rename_i e2; split at e2
        · cases e2
        · rename_i hne
          simp only [Option.some.injEq, Prod.mk.injEq] at e2
          obtain ⟨rfl, rfl⟩ := e2
          simp only [Bool.or_eq_true, Bool.and_eq_true, not_or] at hne
          have hxx : (c.isXX && p.isEmpty) = false := by
            cases hcx : (c.isXX && p.isEmpty) with
            | false => rfl
            | true => simp only [Bool.and_eq_true] at hcx; exact absurd hcx hne.2
          rw [VR_pt] at hv ⊢
          obtain ⟨r1, b1, o1, hr1, hl, rfl⟩ := hv
          rw [hk.σ] at hr1; cases hr1
          obtain ⟨hR, hLc⟩ := hroot n hc p c r0 c0 e hk hq hxx
          have hσ' : (match upOf ups n with | some (p, c) => (st.σ n).bind fun r => if (c.isXX && p.isEmpty) = true then none else some (r.put p c) | none => st.σ n) = some (r0.put p c) := by
            simp only [e, hk.σ, Option.bind_some, hxx, Bool.false_eq_true, if_false]
          exact ⟨r0.put p c, b1, o1, hσ', (hLc q _ hl (fun hh => hne.1 (ext_iff.2 hh))).1, rfl⟩
      · trivial
    · intro n q hc; simp [backP, hun n hc]
    · intro n q hc; simp [backQ, hun n hc]
  · intro n r b hr hb
    by_cases hc : n ∈ lentOf L
    · simp only [hc, if_true] at hb
      exact hb.elim (fun hb => .inr (a1 n b hb).1) (fun hb => .inl (hrest n hc b hb))
    · simp only [hc, if_false] at hb
      have hr : st.σ n = some r := by simpa [St.back, hun n hc] using hr
      refine .inl ⟨(h.sout n r b hr hb).1, ?_⟩
      rintro ⟨m, hm, hS⟩
      obtain ⟨r', hr', hs⟩ := hS1 m hm b hS
      exact h.sdis n m r r' b hr hr' (fun e => hc (e ▸ hm)) hb hs
end Go.Eng

set_option linter.unusedSimpArgs false
set_option linter.unusedVariables false
namespace Go.Eng
open Go.RowKit
variable {P : Program} {T : Nat → Option TI} {N : Nat}

structure Grow (S : Nat → Nat → Prop) (rv : Nat → Value) (st : St) (S' : Nat → Nat → Prop) (rv' : Nat → Value) (st' : St) (Sn : Nat → Prop) : Prop where
  env : st'.env = st.env
  σ : ∀ m r, st.σ m = some r → st'.σ m = some r ∧ rv' m = rv m
  S : ∀ m r b, st'.σ m = some r → S' m b → (∃ r', st.σ m = some r' ∧ S m b) ∨ Sn b
theorem Grow.refl {S rv st Sn} : Grow S rv st S rv st Sn := ⟨rfl, fun m r h => ⟨h, rfl⟩, fun m r b h hb => .inl ⟨r, h, hb⟩⟩
theorem Grow.trans {S rv st S' rv' st' S'' rv'' st''} {A B C : Nat → Prop} (h1 : Grow S rv st S' rv' st' A) (h2 : Grow S' rv' st' S'' rv'' st'' B) (hA : ∀ b, A b → C b) (hB : ∀ b, B b → C b) : Grow S rv st S'' rv'' st'' C where
  env := h2.env.trans h1.env
  σ := fun m r hm => by
    obtain ⟨k1, k2⟩ := h1.σ m r hm
    obtain ⟨k3, k4⟩ := h2.σ m r k1
    exact ⟨k3, k4.trans k2⟩
  S := fun m r b hm hb => by
    rcases h2.S m r b hm hb with ⟨r', hr', hb'⟩ | hb'
    · exact (h1.S m r' b hr' hb').imp id (hA b)
    · exact .inr (hB b hb')
theorem Grow.vr {w Z} {S rv st S' rv' st' Sn} (h : Grow S rv st S' rv' st' Sn) {x v} (hx : VR w Z st.σ rv x v) : VR w Z st'.σ rv' x v := by
  refine VR_keep (fun _ _ => rfl) (fun _ h => h) ?_ ?_ x v hx
  · intro n p v hv
    rw [VR_rf] at *
    obtain ⟨r, hr, hat, k⟩ := hv
    obtain ⟨k1, k2⟩ := h.σ n r hr
    exact ⟨r, k1, by rw [k2]; exact hat, k⟩
  · intro n p o v hv
    rw [VR_pt] at *
    obtain ⟨r, b, o', hr, hl, k⟩ := hv
    obtain ⟨k1, k2⟩ := h.σ n r hr
    exact ⟨r, b, o', k1, by rw [k2]; exact hl, k⟩

theorem Rel0.add {fr S rv st a w} (h : Rel0 fr S rv st a w) {n : Nat} {r : Root} {v : Value} {Sn : Nat → Prop} (hn : st.σ n = none) (hr : RR w fr.X r v Sn)
    (hb : ∀ b, Sn b → b < w.heap.size ∧ ¬ fr.Y b ∧ (fr.S0 b ∨ fr.w0.heap.size ≤ b)) (hd : ∀ m r' b, st.σ m = some r' → S m b → Sn b → False) (hr0 : fr.rv0 n = none) :
    ∃ S' rv', Rel0 fr S' rv' (st.new n r) a w ∧ rv' n = v ∧ Grow S rv st S' rv' (st.new n r) Sn := by
  have hne : ∀ m r', st.σ m = some r' → m ≠ n := fun m r' hm e => by rw [e, hn] at hm; cases hm
  have G : Grow S rv st (fun m => if m = n then Sn else S m) (fun m => if m = n then v else rv m) (st.new n r) Sn := by
    refine ⟨rfl, fun m r' hm => ?_, fun m r' b hm hb => ?_⟩
    · have := hne m r' hm; simp [St.new, this, hm]
    · by_cases e : m = n
      · simp only [e, if_true] at hb; exact .inr hb
      · simp only [e, if_false] at hb; simp only [St.new, e, if_false] at hm; exact .inl ⟨r', hm, hb⟩
  refine ⟨_, _, { h with rr := ?_, sout := ?_, sdis := ?_, rv0 := ?_, env := ?_ }, by simp, G⟩
  · intro m r' hm
    by_cases e : m = n
    · subst e; simp only [St.new, if_true, Option.some.injEq] at hm; subst hm; simpa using hr
    · simp only [St.new, e, if_false] at hm; simpa [e] using h.rr m r' hm
  · intro m r' b hm hb'
    by_cases e : m = n
    · simp only [e, if_true] at hb'; exact hb b hb'
    · simp only [St.new, e, if_false] at hm; simp only [e, if_false] at hb'; exact h.sout m r' b hm hb'
  · intro m m' r1 r2 b h1 h2 hmm hb1 hb2
    by_cases e : m = n
    · have e' : m' ≠ n := fun e' => hmm (e.trans e'.symm)
      simp only [St.new, e', if_false] at h2
      simp only [e, if_true] at hb1
      simp only [e', if_false] at hb2
      exact hd m' r2 b h2 hb2 hb1
    · simp only [St.new, e, if_false] at h1
      simp only [e, if_false] at hb1
      by_cases e' : m' = n
      · simp only [e', if_true] at hb2; exact hd m r1 b h1 hb1 hb2
      · simp only [St.new, e', if_false] at h2; simp only [e', if_false] at hb2; exact h.sdis m m' r1 r2 b h1 h2 hmm hb1 hb2
  · intro m r' v' hm hv'
    by_cases e : m = n
    · subst e; rw [hr0] at hv'; cases hv'
    · simp only [St.new, e, if_false] at hm; simpa [e] using h.rv0 m r' v' hm hv'
  · intro t; exact G.vr (h.env t)

def St.news (st : St) : List (Nat × Root) → St
  | [] => st
  | (n, r) :: rs => (st.new n r).news rs
theorem St.news_append (st : St) : ∀ rs rs' : List (Nat × Root), st.news (rs ++ rs') = (st.news rs).news rs'
  | [], rs' => rfl
  | (n, r) :: rs, rs' => by simp only [List.cons_append, St.news]; exact St.news_append _ rs rs'

def introC (name : Nat) : PV → V × List (Nat × Root)
  | .sl false k es => (.rf name [], [(name, .sv (.sl false k es))])
  | c => (.c c, [])
def introCs (base : Nat) : Nat → List PV → List V × List (Nat × Root)
  | _, [] => ([], [])
  | j, c :: cs => ((introC (base + j) c).1 :: (introCs base (j + 1) cs).1, (introC (base + j) c).2 ++ (introCs base (j + 1) cs).2)
def introBs (base : Nat) : Nat → List (List PV) → List V × List (Nat × Root)
  | _, [] => ([], [])
  | j, cs :: css => (.pt (base + j) [] 0 :: (introBs base (j + 1) css).1, (base + j, .bx cs) :: (introBs base (j + 1) css).2)
def intro1 (base : Nat) : D → V × List (Nat × Root)
  | .v c => introC base c
  | .g cs => (.g (introCs base 1 cs).1, (introCs base 1 cs).2)
  | .p cs => (.pt base [] 0, [(base, .bx cs)])
  | .f fn css => (.fn fn (introBs base 1 css).1, (introBs base 1 css).2)
  | .x => (.dead, [])
def intros (base : Nat) : Nat → List D → List V × List (Nat × Root)
  | _, [] => ([], [])
  | i, d :: ds => ((intro1 (base + 50 * i) d).1 :: (intros base (i + 1) ds).1, (intro1 (base + 50 * i) d).2 ++ (intros base (i + 1) ds).2)

def FreeN (fr : Fr) (st : St) (ns : List Nat) : Prop := ns.Nodup ∧ ∀ n ∈ ns, st.σ n = none ∧ fr.rv0 n = none
theorem FreeN.left {fr st a b} (h : FreeN fr st (a ++ b)) : FreeN fr st a := ⟨(List.nodup_append.1 h.1).1, fun n hn => h.2 n (List.mem_append.2 (.inl hn))⟩
theorem news_σ (st : St) : ∀ (rs : List (Nat × Root)) n, n ∉ rs.map (·.1) → (st.news rs).σ n = st.σ n
  | [], n, _ => rfl
  | (m, r) :: rs, n, h => by
    simp only [List.map_cons, List.mem_cons, not_or] at h
    simp only [St.news]
    rw [news_σ _ rs n h.2]
    simp [St.new, h.1]
theorem FreeN.right {fr st} {rs : List (Nat × Root)} {b} (h : FreeN fr st (rs.map (·.1) ++ b)) : FreeN fr (st.news rs) b := by
  refine ⟨(List.nodup_append.1 h.1).2.1, fun n hn => ?_⟩
  obtain ⟨h1, h2⟩ := h.2 n (List.mem_append.2 (.inr hn))
  refine ⟨?_, h2⟩
  rw [news_σ]
  · exact h1
  · exact fun hm => (List.nodup_append.1 h.1).2.2 n hm n hn rfl

structure InOK (fr : Fr) (S : Nat → Nat → Prop) (st : St) (w : World) (Sn : Nat → Prop) : Prop where
  b : ∀ b, Sn b → b < w.heap.size ∧ ¬ fr.Y b ∧ (fr.S0 b ∨ fr.w0.heap.size ≤ b)
  d : ∀ m r' b, st.σ m = some r' → S m b → Sn b → False
theorem InOK.sub {fr S st w Sn Sn'} (h : InOK fr S st w Sn) (hs : ∀ b, Sn' b → Sn b) : InOK fr S st w Sn' := ⟨fun b hb => h.b b (hs b hb), fun m r' b hm h1 h2 => h.d m r' b hm h1 (hs b h2)⟩
theorem InOK.grow {fr S rv st S' rv' st' w A B} (h : InOK fr S st w B) (hg : Grow S rv st S' rv' st' A) (hd : ∀ b, A b → B b → False) : InOK fr S' st' w B :=
  ⟨h.b, fun m r' b hm h1 h2 => (hg.S m r' b hm h1).elim (fun ⟨r, hr, hb⟩ => h.d m r b hr hb h2) (fun ha => hd b ha h2)⟩

theorem introC_ok {fr S rv st a w} (h : Rel0 fr S rv st a w) {name c v Sn} (hr : RV w fr.X c v Sn) (hn : FreeN fr st ((introC name c).2.map (·.1))) (hi : InOK fr S st w Sn) :
    ∃ S' rv', Rel0 fr S' rv' (st.news (introC name c).2) a w ∧ VR w fr.X (st.news (introC name c).2).σ rv' (introC name c).1 v ∧ Grow S rv st S' rv' (st.news (introC name c).2) Sn := by
  have plain : c.isOwn = false → (introC name c) = (.c c, []) ∧ RV w fr.X c v (fun _ => False) := by
    intro ho
    cases c with
    | sl f k es =>
      cases f with
      | true => exact ⟨rfl, by rw [RV_fz] at *; exact hr⟩
      | false => simp [PV.isOwn] at ho
    | sc x => exact ⟨rfl, by rw [RV_sc] at *; exact hr⟩
    | xx => exact ⟨rfl, by rw [RV_xx]; trivial⟩
    | ag cs => rw [RV_ag] at hr; exact hr.elim
  cases ho : c.isOwn with
  | false =>
    obtain ⟨e, hr'⟩ := plain ho
    rw [e]
    exact ⟨S, rv, h, by rw [VR_c]; exact hr', Grow.refl⟩
  | true =>
    obtain ⟨k, es, rfl⟩ := own_sl ho
    obtain ⟨h1, h2⟩ := hn.2 name (by simp [introC])
    obtain ⟨S', rv', hR, hv, hg⟩ := h.add (r := .sv (.sl false k es)) h1 ⟨rfl, hr⟩ hi.b hi.d h2
    refine ⟨S', rv', hR, ?_, hg⟩
    simp only [introC]
    rw [VR_rf]
    exact ⟨_, by simp [St.news, St.new]; rfl, by simp [rAt, hv], false, k, es, rfl⟩
theorem introCs_ok {fr a w base} : ∀ (cs : List PV) (j : Nat) {S rv st} (vs : List Value) (Sn : Nat → Prop), Rel0 fr S rv st a w → SlotRs w fr.X cs vs Sn → (∀ c ∈ cs, c.isAg = false) → FreeN fr st ((introCs base j cs).2.map (·.1)) → InOK fr S st w Sn →
    ∃ S' rv', Rel0 fr S' rv' (st.news (introCs base j cs).2) a w ∧ VRs w fr.X (st.news (introCs base j cs).2).σ rv' (introCs base j cs).1 vs ∧ Grow S rv st S' rv' (st.news (introCs base j cs).2) Sn
  | [], j, S, rv, st, vs, Sn, h, hr, ha, hn, hi => by
    simp only [SlotRs] at hr; subst hr
    exact ⟨S, rv, h, by simp [introCs, VRs_nil], Grow.refl⟩
  | c :: cs, j, S, rv, st, vs, Sn, h, hr, ha, hn, hi => by
    obtain ⟨v, vs', S1, S2, rfl, hsep, h1, h2⟩ := hr
    have hac := ha c (by simp)
    have h1' : RV w fr.X c v S1 := by cases c <;> first | exact h1 | simp [PV.isAg] at hac
    simp only [introCs, List.map_append] at hn ⊢
    obtain ⟨S', rv', hR, hx, hg⟩ := introC_ok (name := base + j) h h1' hn.left (hi.sub hsep.1)
    obtain ⟨S'', rv'', hR', hxs, hg'⟩ := introCs_ok cs (j + 1) vs' S2 hR h2 (fun c' hc => ha c' (List.mem_cons_of_mem _ hc)) hn.right ((hi.sub hsep.2.1).grow hg hsep.2.2)
    rw [St.news_append]
    exact ⟨S'', rv'', hR', by rw [VRs_cons]; exact ⟨v, vs', rfl, hg'.vr hx, hxs⟩, hg.trans hg' hsep.1 hsep.2.1⟩
theorem introBs_ok {fr a w base} : ∀ (css : List (List PV)) (j : Nat) {S rv st} (vs : List Value) (Sn : Nat → Prop), Rel0 fr S rv st a w → SlotRs w fr.X (css.map .ag) vs Sn → FreeN fr st ((introBs base j css).2.map (·.1)) → InOK fr S st w Sn →
    ∃ S' rv', Rel0 fr S' rv' (st.news (introBs base j css).2) a w ∧ VRs w fr.X (st.news (introBs base j css).2).σ rv' (introBs base j css).1 vs ∧ Grow S rv st S' rv' (st.news (introBs base j css).2) Sn
  | [], j, S, rv, st, vs, Sn, h, hr, hn, hi => by
    have hr : vs = [] := hr
    subst hr
    exact ⟨S, rv, h, by simp [introBs, VRs_nil], Grow.refl⟩
  | cs :: css, j, S, rv, st, vs, Sn, h, hr, hn, hi => by
    obtain ⟨v, vs', S1, S2, rfl, hsep, h1, h2⟩ := hr
    have h1' : RR w fr.X (.bx cs) v S1 := h1
    simp only [introBs] at hn ⊢
    have hn' : FreeN fr st ([(base + j, Root.bx cs)].map (·.1) ++ (introBs base (j + 1) css).2.map (·.1)) := hn
    obtain ⟨k1, k2⟩ := hn'.2 (base + j) (by simp)
    obtain ⟨S', rv', hR, hv, hg⟩ := h.add (r := .bx cs) k1 h1' (hi.sub hsep.1).b (hi.sub hsep.1).d k2
    obtain ⟨S'', rv'', hR', hxs, hg'⟩ := introBs_ok css (j + 1) vs' S2 hR h2 hn'.right ((hi.sub hsep.2.1).grow hg hsep.2.2)
    refine ⟨S'', rv'', hR', ?_, hg.trans hg' hsep.1 hsep.2.1⟩
    rw [VRs_cons]
    refine ⟨v, vs', rfl, hg'.vr ?_, hxs⟩
    rw [VR_pt]
    obtain ⟨b, cur, ty, rfl, _⟩ := h1'
    exact ⟨.bx cs, b, 0, by simp [St.new], by rw [hv]; rfl, rfl⟩
theorem intro1_ok {fr S rv st a w} (h : Rel0 fr S rv st a w) {base d v Sn} (hr : DR w fr.X d v Sn) (hn : FreeN fr st ((intro1 base d).2.map (·.1))) (hi : InOK fr S st w Sn) :
    ∃ S' rv', Rel0 fr S' rv' (st.news (intro1 base d).2) a w ∧ VR w fr.X (st.news (intro1 base d).2).σ rv' (intro1 base d).1 v ∧ Grow S rv st S' rv' (st.news (intro1 base d).2) Sn := by
  cases d with
  | v c => exact introC_ok h hr hn hi
  | g cs =>
    obtain ⟨arr, rfl, hs, ha, ho⟩ := hr
    obtain ⟨S', rv', hR, hx, hg⟩ := introCs_ok cs 1 arr.toList Sn h hs ha hn hi
    exact ⟨S', rv', hR, by simp only [intro1]; rw [VR_g]; exact ⟨arr, rfl, hx⟩, hg⟩
  | p cs =>
    have hr : RR w fr.X (.bx cs) v Sn := hr
    obtain ⟨k1, k2⟩ := hn.2 base (by simp [intro1])
    obtain ⟨S', rv', hR, hv, hg⟩ := h.add (r := .bx cs) k1 hr hi.b hi.d k2
    refine ⟨S', rv', hR, ?_, hg⟩
    simp only [intro1]
    rw [VR_pt]
    obtain ⟨b, cur, ty, rfl, _⟩ := hr
    exact ⟨.bx cs, b, 0, by simp [St.news, St.new], by rw [hv]; rfl, rfl⟩
  | f fn css =>
    obtain ⟨arr, rfl, hs⟩ := hr
    obtain ⟨S', rv', hR, hx, hg⟩ := introBs_ok css 1 arr.toList Sn h hs hn hi
    exact ⟨S', rv', hR, by simp only [intro1]; rw [VR_fn]; exact ⟨arr, rfl, hx⟩, hg⟩
  | x => exact ⟨S, rv, h, by simp only [intro1]; rw [VR_dead]; trivial, Grow.refl⟩
theorem intros_ok {fr a w base} : ∀ (ds : List D) (i : Nat) {S rv st} (vs : List Value) (Sn : Nat → Prop), Rel0 fr S rv st a w → DRs w fr.X ds vs Sn → FreeN fr st ((intros base i ds).2.map (·.1)) → InOK fr S st w Sn →
    ∃ S' rv', Rel0 fr S' rv' (st.news (intros base i ds).2) a w ∧ VRs w fr.X (st.news (intros base i ds).2).σ rv' (intros base i ds).1 vs ∧ Grow S rv st S' rv' (st.news (intros base i ds).2) Sn
  | [], i, S, rv, st, vs, Sn, h, hr, hn, hi => by
    simp only [DRs] at hr; subst hr
    exact ⟨S, rv, h, by simp [intros, VRs_nil], Grow.refl⟩
  | d :: ds, i, S, rv, st, vs, Sn, h, hr, hn, hi => by
    obtain ⟨v, vs', S1, S2, rfl, hsep, h1, h2⟩ := hr
    simp only [intros, List.map_append] at hn ⊢
    obtain ⟨S', rv', hR, hx, hg⟩ := intro1_ok (base := base + 50 * i) h h1 hn.left (hi.sub hsep.1)
    obtain ⟨S'', rv'', hR', hxs, hg'⟩ := intros_ok ds (i + 1) vs' S2 hR h2 hn.right ((hi.sub hsep.2.1).grow hg hsep.2.2)
    rw [St.news_append]
    exact ⟨S'', rv'', hR', by rw [VRs_cons]; exact ⟨v, vs', rfl, hg'.vr hx, hxs⟩, hg.trans hg' hsep.1 hsep.2.1⟩

def resV (base : Nat) (res : List D) : V :=
  match (intros base 0 res).1 with
  | [x] => x
  | xs => .tu xs
theorem resV_ok {w Z σ rv base res vs} (h : VRs w Z σ rv (intros base 0 res).1 vs) : VR w Z σ rv (resV base res) (resOf vs) := by
  have hl := VRs_length _ _ h
  unfold resV resOf
  split
  · rename_i x e
    rw [e] at h hl
    rw [VRs_cons] at h
    obtain ⟨v, vs', rfl, h1, h2⟩ := h
    rw [VRs_nil] at h2; subst h2
    simpa using h1
  · rename_i xs hne
    have : vs.length ≠ 1 := by
      intro h1
      rw [hl] at h1
      obtain ⟨x, hx⟩ := List.length_eq_one_iff.1 h1
      exact hne x hx
    rw [dif_neg this, VR_tu]
    exact ⟨vs.toArray, rfl, by simpa using h⟩

def D.nofz : D → Bool
  | .v c => c.nofz
  | .g cs => PV.nofzs cs
  | .p cs => PV.nofzs cs
  | .f _ css => css.all PV.nofzs
  | .x => true
theorem SlotR_nofz {w Z Z' c u S} (hf : c.nofz = true) (h : SlotR w Z c u S) : SlotR w Z' c u S := by
  cases c with
  | ag cs =>
    have h : RR w Z (.bx cs) u S := h
    obtain ⟨b, cur, ty, h1, h2, h3, h4, h5⟩ := h
    exact ⟨b, cur, ty, h1, h2, h3, h4, RC_nofz cs b 0 _ hf h5⟩
  | _ => exact RV_nofz (Z := Z) _ u S hf h
theorem SlotRs_nofz {w Z Z'} : ∀ {cs vs} {S : Nat → Prop}, PV.nofzs cs = true → SlotRs w Z cs vs S → SlotRs w Z' cs vs S
  | [], vs, S, hf, h => h
  | c :: cs, vs, S, hf, h => by
    simp only [PV.nofzs, Bool.and_eq_true] at hf
    obtain ⟨v, vs', S1, S2, rfl, hsep, h1, h2⟩ := h
    exact ⟨v, vs', S1, S2, rfl, hsep, SlotR_nofz hf.1 h1, SlotRs_nofz hf.2 h2⟩
theorem nofzs_ag : ∀ css : List (List PV), css.all PV.nofzs = true → PV.nofzs (css.map .ag) = true
  | [], _ => rfl
  | cs :: css, h => by simp only [List.all_cons, Bool.and_eq_true] at h; simp only [List.map_cons, PV.nofzs, PV.nofz, Bool.and_eq_true]; exact ⟨h.1, nofzs_ag css h.2⟩
theorem DR_nofz {w Z Z' d u S} (hf : d.nofz = true) (h : DR w Z d u S) : DR w Z' d u S := by
  cases d with
  | v c => exact RV_nofz c u S hf h
  | g cs => obtain ⟨arr, e, h1, h2⟩ := h; exact ⟨arr, e, SlotRs_nofz hf h1, h2⟩
  | p cs => exact SlotR_nofz (c := .ag cs) hf h
  | f fn css => obtain ⟨arr, e, h1⟩ := h; exact ⟨arr, e, SlotRs_nofz (nofzs_ag css hf) h1⟩
  | x => trivial
theorem DRs_nofz {w Z Z'} : ∀ {ds vs} {S : Nat → Prop}, ds.all D.nofz = true → DRs w Z ds vs S → DRs w Z' ds vs S
  | [], vs, S, hf, h => h
  | d :: ds, vs, S, hf, h => by
    simp only [List.all_cons, Bool.and_eq_true] at hf
    obtain ⟨v, vs', S1, S2, rfl, hsep, h1, h2⟩ := h
    exact ⟨v, vs', S1, S2, rfl, hsep, DR_nofz hf.1 h1, DRs_nofz hf.2 h2⟩
end Go.Eng

set_option linter.unusedSimpArgs false
set_option linter.unusedVariables false
namespace Go.Eng
open Go.RowKit
variable {P : Program} {T : Nat → Option TI} {N : Nat}

def HasBody (P : Program) (f : Nat) : Prop := ∃ fn, P.funcs[f]? = some fn ∧ (fn.name == "runtime.NumGoroutine") = false ∧ fn.body.isNone = false
theorem run_callFunc {f args} (h : HasBody P f) (w : World) : (callFunc f args).run P w = .ok (.enter f args) w := by
  obtain ⟨fn, h1, h2, h3⟩ := h
  have h2' : ¬ (fn.name = "runtime.NumGoroutine") := by simpa using h2
  have h3' : ¬ (fn.body = none) := by intro e; rw [e] at h3; cases h3
  simp [callFunc, h1, h2', h3']

def callSt (st : St) (d : Option Nat) (ups : Up) (res : List D) : St :=
  match d with
  | some d => ((st.back ups).news (intros (rootName d) 0 res).2).put (some d) (resV (rootName d) res)
  | none => st.back ups
structure CallOK (N : Nat) (st : St) (d : Option Nat) (xs : List V) (ins outs res : List D) (l : Lt) : Prop where
  lend : Lends st xs ins l
  nd : (lentOf l).Nodup
  reads : ∀ n, (n, none) ∈ l → n ∉ lentOf l
  cov : (backs xs ins outs).map (fun q => (q.1, some q.2.1)) = l.filter (fun s => s.2.isSome)
  ups : ∀ q ∈ backs xs ins outs, UpOK st q
  fz : (∀ n, (n, none) ∉ l) ∨ (outs.all D.nofz = true ∧ res.all D.nofz = true)
  dst : dIn N d = true
  names : ∀ x, d = some x → ((intros (rootName x) 0 res).2.map (·.1)).Nodup ∧ ∀ n ∈ (intros (rootName x) 0 res).2.map (·.1), (st.back (backs xs ins outs)).σ n = none ∧ n < 100000000

structure CallIn (st : St) (xs : List V) (ins : List D) (l : Lt) : Prop where
  lend : Lends st xs ins l
  nd : (lentOf l).Nodup
  reads : ∀ n, (n, none) ∈ l → n ∉ lentOf l
theorem call_opX {o : Oper} {st : St} {c : Call} {cal : Operand} {f : Nat} {caps : List V} {ins : List D} {α : Type} {p : α → Prop} {outs res : α → List D} {l : Lt} (ho : o.op = .call c) (hcal : c.callee = .value cal) (hf : evalO st cal = .fn f caps) (hb : HasBody P f)
    (hcall : ACallX P f ins p outs res) (hin0 : CallIn st (c.args.toList.map (evalO st) ++ caps) ins l) (hok0 : ∀ x, p x → CallOK N st o.dst (c.args.toList.map (evalO st) ++ caps) ins (outs x) (res x) l) :
    ∀ fr a w, FrOK P N fr → Rel fr st a w → o.wp P a w (fun a' w' => (∃ st1, (∃ x, p x ∧ callSt st o.dst (backs (c.args.toList.map (evalO st) ++ caps) ins (outs x)) (res x) = st1) ∧ Rel fr st1 a' w') ∧ (lentOf l = [] → ExtW w w')) (fun _ _ _ => False) := by
  intro fr a w hfr ⟨S, rv, hR⟩
  have hfv := evalO_ok hR cal
  rw [hf, VR_fn] at hfv
  obtain ⟨arr, hfe, hcaps⟩ := hfv
  have hxs : VRs w fr.X st.σ rv (c.args.toList.map (evalO st) ++ caps) (c.args.toList.map a.eval ++ arr.toList) := VRs_append (VRs_map hR c.args.toList) hcaps
  obtain ⟨S1, S2, u, hL⟩ := lent_all hR hin0.lend hin0.nd
  -- what the call may read
  have hin := lend_ins hR hL (Zc := fun b => fr.X b ∨ ∃ n, (n, none) ∈ l ∧ S n b) (fun b h => .inl h) (fun n b h1 h2 => .inr ⟨n, h1, h2⟩) _ _ _ _ hxs hin0.lend (fun s h => h) hin0.nd
  have hlent : ∀ n ∈ lentOf l, ∀ b, S1 n b → ∃ r, st.σ n = some r ∧ S n b := by
    intro n hn b hb
    obtain ⟨⟨m, q⟩, hs, e⟩ := List.mem_filterMap.1 hn
    cases q with
    | none => simp at e
    | some p =>
      simp at e; subst e
      obtain ⟨r, c0, hk⟩ := hL.all m p hs
      exact ⟨r, hk.σ, hk.sep.1 b hb⟩
  have hYlt : ∀ b, fr.Y b → b < w.heap.size := fun b hb => Nat.lt_of_lt_of_le (hR.xlt b hb) hR.size
  have hXlt : ∀ b, fr.X b → b < w.heap.size := fun b hb => hYlt b (hR.xy b hb)
  have h1 : ∀ b, (fr.X b ∨ ∃ n, (n, none) ∈ l ∧ S n b) ∨ (∃ n ∈ lentOf l, S1 n b) → b < w.heap.size := by
    rintro b ((hx | ⟨n, hn, hb⟩) | ⟨n, hn, hb⟩)
    · exact hXlt b hx
    · obtain ⟨r, hr⟩ := hL.reads n hn; exact (hR.sout n r b hr hb).1
    · obtain ⟨r, hr, hs⟩ := hlent n hn b hb; exact (hR.sout n r b hr hs).1
  have h2 : ∀ b, (∃ n ∈ lentOf l, S1 n b) → ¬ (fr.X b ∨ ∃ n, (n, none) ∈ l ∧ S n b) := by
    rintro b ⟨n, hn, hb⟩ (hx | ⟨m, hm, hb'⟩)
    · obtain ⟨r, hr, hs⟩ := hlent n hn b hb; exact (hR.sout n r b hr hs).2.1 (hR.xy b hx)
    · obtain ⟨r, hr, hs⟩ := hlent n hn b hb
      obtain ⟨r', hr'⟩ := hL.reads m hm
      exact hR.sdis n m r r' b hr hr' (fun e => hin0.reads m hm (e ▸ hn)) hs hb'
  have hC := hcall w (fun b => fr.X b ∨ ∃ n, (n, none) ∈ l ∧ S n b) (fun b => ∃ n ∈ lentOf l, S1 n b) _ (hfr.gw.agr (fun b h => .inl h) (fun b hb => hR.agr b (hR.xy b hb))) hin h1 h2
  have hargs : (c.args.toList.map a.eval ++ arr.toList).toArray = c.args.map a.eval ++ arr := by simp
  rw [hargs] at hC
  have hrun : (execOp a.eval o).run P w = .ok (.enter f (c.args.map a.eval ++ arr)) w := by
    simp only [execOp, ho, resolve, hcal, Sem.run_bind, hfe, Deferred.ofValue, Sem.run_pure, Result.andThen_ok, invoke, run_callFunc hb, Array.empty_append]
  simp only [Oper.wp, hrun, Oper.upon]
  refine hC.mono ?_
  rintro e w' ⟨x, hpx, rvs, S', Sr, rfl, hos, htape, hout, hsz, hfrm, hsub, hdis, houts, hres⟩
  have hok := hok0 x hpx
  refine ⟨?_, fun e => ⟨hsz, fun b hb => hfrm b hb (by rintro ⟨n, hn, _⟩; rw [e] at hn; cases hn)⟩⟩
  refine ⟨_, ⟨x, hpx, rfl⟩, ?_⟩
  have hext : lentOf l = [] → ExtW w w' := fun e => ⟨hsz, fun b hb => hfrm b hb (by rintro ⟨n, hn, _⟩; rw [e] at hn; cases hn)⟩
  -- nothing but X is shared
  have hZX : DRs w' fr.X (outs x) (c.args.toList.map a.eval ++ arr.toList) S' ∧ DRs w' fr.X (res x) rvs Sr := by
    rcases hok.fz with hz | ⟨hz1, hz2⟩
    · have e : (fun b => fr.X b ∨ ∃ n, (n, none) ∈ l ∧ S n b) = fr.X := by
        funext b
        exact propext ⟨fun h => h.elim id (fun ⟨n, hn, _⟩ => absurd hn (hz n)), .inl⟩
      rw [e] at houts hres
      exact ⟨houts, hres⟩
    · exact ⟨DRs_nofz hz1 houts, DRs_nofz hz2 hres⟩
  obtain ⟨houts, hres⟩ := hZX
  have hnd : ((backs (c.args.toList.map (evalO st) ++ caps) ins (outs x)).map (·.1)).Nodup := by
    have := hok.nd
    rw [lentOf_filter, ← hok.cov, lentOf_map] at this
    exact this
  have hB := lend_outs (w' := w') hR hL (Z' := fr.X) _ _ _ _ _ S' hxs hok.lend (fun s h => h) houts hnd
  obtain ⟨S'', rv'', hR', hS''⟩ := hR.back hL hok.cov hok.nd hok.ups hB hos htape hout hsz hfrm (fun b hb => (hsub b (.inl hb)))
  cases hd : o.dst with
  | none => simp only [callSt]; exact ⟨S'', rv'', hR'⟩
  | some d =>
    obtain ⟨n1, n2⟩ := hok.names d hd
    have hfree : FreeN fr (st.back (backs (c.args.toList.map (evalO st) ++ caps) ins (outs x))) ((intros (rootName d) 0 (res x)).2.map (·.1)) := by
      refine ⟨n1, fun n hn => ⟨(n2 n hn).1, ?_⟩⟩
      cases e : fr.rv0 n with
      | none => rfl
      | some v => have := hfr.names n v e; have := (n2 n hn).2; omega
    have hio : InOK fr S'' (st.back (backs (c.args.toList.map (evalO st) ++ caps) ins (outs x))) w' Sr := by
      refine ⟨fun b hb => ?_, fun m r b hm h1 h2 => ?_⟩
      · rcases hsub b (.inr hb) with ⟨n, hn, hs⟩ | ⟨k1, k2⟩
        · obtain ⟨r, hr, hs⟩ := hlent n hn b hs
          obtain ⟨k1, k2, k3⟩ := hR.sout n r b hr hs
          exact ⟨by omega, k2, k3⟩
        · exact ⟨k2, fun hx => by have := hYlt b hx; omega, .inr (by have := hR.size; omega)⟩
      · rcases hS'' m r b hm h1 with ⟨k1, k2⟩ | k1
        · rcases hsub b (.inr h2) with hh | hh
          · exact k2 hh
          · omega
        · exact hdis b k1 h2
    obtain ⟨S3, rv3, hR3, hx3, _⟩ := intros_ok (base := rootName d) (res x) 0 rvs Sr hR' hres hfree hio
    have hdN : dOK fr.N (some d) := by
      have := hok.dst
      rw [hd] at this
      exact hfr.n ▸ dOK_of this
    refine ⟨S3, rv3, ?_⟩
    simp only [callSt]
    exact hR3.put hdN (resV_ok hx3)
theorem call_op' {o : Oper} {st : St} {c : Call} {cal : Operand} {f : Nat} {caps : List V} {ins outs res : List D} {l : Lt} (ho : o.op = .call c) (hcal : c.callee = .value cal) (hf : evalO st cal = .fn f caps) (hb : HasBody P f)
    (hcall : ACall P f ins outs res) (hok : CallOK N st o.dst (c.args.toList.map (evalO st) ++ caps) ins outs res l) :
    ∀ fr a w, FrOK P N fr → Rel fr st a w → o.wp P a w (fun a' w' => Rel fr (callSt st o.dst (backs (c.args.toList.map (evalO st) ++ caps) ins outs) res) a' w' ∧ (lentOf l = [] → ExtW w w')) (fun _ _ _ => False) := by
  intro fr a w hfr hr
  have := call_opX (N := N) ho hcal hf hb hcall.x ⟨hok.lend, hok.nd, hok.reads⟩ (fun _ _ => hok) fr a w hfr hr
  unfold Oper.wp at *
  generalize (execOp a.eval o).run P w = r at *
  cases r with
  | ok n w' =>
    cases n <;> simp only [Oper.upon] at this ⊢ <;>
      first
        | (obtain ⟨⟨_, ⟨_, _, rfl⟩, h1⟩, h2⟩ := this; exact ⟨h1, h2⟩)
        | exact Calls.mono this (fun e w'' he => by cases e <;> first | exact he.elim | (obtain ⟨⟨_, ⟨_, _, rfl⟩, h1⟩, h2⟩ := he; exact ⟨h1, h2⟩) | (obtain ⟨_, _, he⟩ := he; exact he.elim))
        | exact Rows.mono this (fun _ _ he => by obtain ⟨⟨_, ⟨_, _, rfl⟩, h1⟩, h2⟩ := he; exact ⟨h1, h2⟩)
  | halt x w' => cases x <;> simp only [Oper.upon] at this ⊢ <;> first | exact this.elim | exact this
theorem call_op {o : Oper} {st : St} {c : Call} {cal : Operand} {f : Nat} {caps : List V} {ins outs res : List D} {l : Lt} (ho : o.op = .call c) (hcal : c.callee = .value cal) (hf : evalO st cal = .fn f caps) (hb : HasBody P f)
    (hcall : ACall P f ins outs res) (hok : CallOK N st o.dst (c.args.toList.map (evalO st) ++ caps) ins outs res l) :
    OpOK P N o st (callSt st o.dst (backs (c.args.toList.map (evalO st) ++ caps) ins outs) res) :=
  fun fr a w hfr hr => Oper.wp_mono (fun _ _ h => h.1) (call_op' ho hcal hf hb hcall hok fr a w hfr hr)
theorem call_opE {o : Oper} {st : St} {c : Call} {cal : Operand} {f : Nat} {caps : List V} {ins outs res : List D} {l : Lt} (ho : o.op = .call c) (hcal : c.callee = .value cal) (hf : evalO st cal = .fn f caps) (hb : HasBody P f)
    (hcall : ACall P f ins outs res) (hok : CallOK N st o.dst (c.args.toList.map (evalO st) ++ caps) ins outs res l) :
    lentOf l = [] → OpOKE P N o st (callSt st o.dst (backs (c.args.toList.map (evalO st) ++ caps) ins outs) res) :=
  fun hl fr a w hfr hr => Oper.wp_mono (fun _ _ h => ⟨h.1, h.2 hl⟩) (call_op' ho hcal hf hb hcall hok fr a w hfr hr)
end Go.Eng

set_option linter.unusedSimpArgs false
set_option linter.unusedVariables false
namespace Go.Eng
open Go.RowKit
variable {P : Program} {T : Nat → Option TI} {N : Nat}

def mkSlSt (T : Nat → Option TI) (N : Nat) (st : St) (t : Nat) (l c : V) (d : Nat) : Option St :=
  (T t).bind fun i => match i.kd with
    | .sl e k b => (T e).bind fun ie => (intV l).bind fun l => (intV c).bind fun c =>
        if 0 ≤ l.2 ∧ l.2 ≤ c.2 ∧ c.2 * b ≤ 140737488355328 ∧ c.2 ≤ 4611686018427387904 ∧ d < N ∧ st.σ (rootName d) = none ∧ ie.size = k ∧ k ≠ 0 then
          some ((st.new (rootName d) (.sv (.sl false k (List.replicate l.2.toNat (mkEl ie ie.zero))))).put (some d) (.rf (rootName d) [])) else none
    | _ => none
theorem flat_rep {α : Type} (xs : List α) : ∀ (n j : Nat) (v : α), (List.replicate n xs).flatten[j]? = some v → j < n * xs.length ∧ xs[j % xs.length]? = some v
  | 0, j, v, h => by simp at h
  | n + 1, j, v, h => by
    rw [List.replicate_succ, List.flatten_cons, List.getElem?_append] at h
    rw [Nat.add_mul, Nat.one_mul]
    split at h
    · rename_i hj
      rw [Nat.mod_eq_of_lt hj]
      exact ⟨by omega, h⟩
    · rename_i hj
      obtain ⟨h1, h2⟩ := flat_rep xs n _ v h
      refine ⟨by omega, ?_⟩
      rwa [← Nat.mod_eq_sub_mod (by omega)] at h2
theorem REs_zero {w Z} {i : TI} (ho : ∀ c ∈ i.zero, zok c = true) (ha : ∀ c ∈ i.zero, c.isAg = false) : ∀ (n : Nat) (S : Nat → Prop), REs w Z i (List.replicate n (mkEl i i.zero)) (List.replicate n (i.zero.map zval)) S
  | 0, S => by simp [REs]
  | n + 1, S => by
    simp only [List.replicate_succ, REs]
    exact ⟨_, _, fun _ => False, S, i.zero, rfl, ⟨fun _ h => h.elim, fun _ h => h, fun _ h _ => h⟩, rfl, ha, rfl, RVs_zero _ ho, REs_zero ho ha n S⟩
theorem zok_ag {c : PV} (h : zok c = true) : c.isAg = false := by cases c <;> simp_all [zok, PV.isAg]
theorem run_makeSl {P : Program} {t e : Nat} {inf : TypeInfo} {z : Value} {kl kc : IntKind} (w : World) (m n : Nat) (hdd : P.underlying t = some (.slice e)) (hinf : P.info? e = some inf) (hz : (zeroValue e).run P w = .ok z w) (hmn : m ≤ n) (hb : n * inf.bytes ≤ 140737488355328) (hn : n ≤ 4611686018427387904) :
    (Instr.makeSlice t (.int kl m) (.int kc n)).run P w = .ok (.slice (some ⟨w.heap.size, 0, none⟩) m n) (w.alloc (.cells ((Array.range (n * inf.size)).map ((if n * inf.size = 0 then (#[] : Array Value) else z.cells)[· % (if n * inf.size = 0 then (#[] : Array Value) else z.cells).size]!)) e)) := by
  have hwl : IntKind.i64.wrap (m : Int) = m := by rw [i64_wrap]; unfold wrap64; omega
  have hwc : IntKind.i64.wrap (n : Int) = n := by rw [i64_wrap]; unfold wrap64; omega
  have e1 : ¬ ((inf.bytes : Int) * n > 2 ^ 48) := by
    have : (inf.bytes : Int) * n = ((n * inf.bytes : Nat) : Int) := by push_cast; exact Int.mul_comm _ _
    rw [this]; omega
  have e2 : ¬ ((n : Int) < 0) := by omega
  have e3 : ¬ ((m : Int) < 0) := by omega
  have e4 : ¬ ((m : Int) > n) := by omega
  have e5 : ¬ (n * inf.bytes > roomBytes) := by have : roomBytes = 140737488355328 := rfl; omega
  simp only [Instr.makeSlice, Sem.run_bind, run_underlying hdd, Result.andThen_ok, asInt, Sem.run_pure, typeInfo, hinf, hwl, hwc, e1, e2, e3, e4, decide_false, Bool.or_self, Bool.false_eq_true, if_false, askRoom, Int.toNat_natCast, e5, sizeOf]
  have hp : (program).run P w = .ok P w := rfl
  simp only [asIntOf, Sem.run_pure, Result.andThen_ok, hp, hinf, hwl, hwc, e1, e2, e3, e4, decide_false, Bool.or_self, Bool.false_eq_true, if_false, Int.toNat_natCast, e5, Sem.run_bind]
  by_cases h0 : n * inf.size = 0
  · simp only [h0, if_true, Sem.run_bind, Sem.run_pure, Result.andThen_ok, hp, hinf, newRow, run_newObj, World.alloc_eq]
  · simp only [h0, if_false, Sem.run_bind, Sem.run_pure, Result.andThen_ok, hp, hinf, newRow, run_newObj, World.alloc_eq, hz]
theorem mkSl_opE (hT : TOK P T) {o : Oper} {st st' : St} {t l c d} (ho : o.op = .makeSlice t l c) (hd : o.dst = some d) (h : mkSlSt T N st t (evalO st l) (evalO st c) d = some st') : OpOKE P N o st st' :=
  OpOKE.val fun fr S rv a w hf hR => by
    simp only [mkSlSt, Option.bind_eq_some_iff] at h
    obtain ⟨i, hi, h⟩ := h
    split at h
    · rename_i e k b hk
      simp only [Option.bind_eq_some_iff] at h
      obtain ⟨ie, hie, ⟨kl, ln⟩, hln, ⟨kc, cn⟩, hcn, h⟩ := h
      split at h
      · rename_i hc
        cases h
        obtain ⟨h0, hlc, hcb, hcm, hdN, hσ, hsz, hk0⟩ := hc
        simp only at h0 hlc hcb hcm
        obtain ⟨dd, hdd, _, hkd⟩ := (hT t i hi).und
        rw [hk] at hkd
        obtain ⟨rfl, ie', hie', hs', hb'⟩ := hkd
        obtain ⟨inf, z, hinf, hisz, hz, hzc, hzo, _⟩ := (hT e ie hie).inf
        rw [hinf] at hie'; cases hie'
        have hzlen := (hT e ie hie).len
        have h1 := size_pos_of_TI (hT e ie hie)
        have hl := intV_ok (evalO_ok hR l) hln
        have hcc := intV_ok (evalO_ok hR c) hcn
        obtain ⟨n, rfl⟩ : ∃ n : Nat, cn = n := ⟨cn.toNat, by omega⟩
        obtain ⟨m, rfl⟩ : ∃ n : Nat, ln = n := ⟨ln.toNat, by omega⟩
        have hmn : m ≤ n := by omega
        have hnb' : n * ie'.bytes ≤ 140737488355328 := by
          rw [hb']
          have e : ((n * b : Nat) : Int) = (n : Int) * b := Int.natCast_mul n b
          rw [← e] at hcb
          omega
        have hzn : z.cells.size = k := by
          have := congrArg List.length hzc
          simpa [hzlen, hsz] using this
        obtain ⟨z', hz1, hz2, hz3⟩ := run_zeroValue (hT e ie hie) w
        have hz0 : z' = z := by
          simp only [zeroValue, typeInfo, Sem.run_bind, run_program, Result.andThen_ok, hinf, Sem.run_pure, hz] at hz1
          simpa using hz1.symm
        subst hz0
        have hrun := run_makeSl (kl := kl) (kc := kc) w m n hdd hinf hz1 hmn hnb' (by omega)
        rw [hs'] at hrun
        refine ⟨_, _, by simp only [execOp, ho, Sem.run_bind, hl, hcc, hrun, Result.andThen_ok, Sem.run_pure]; rfl, ext_alloc _ _, ?_⟩
        rw [hd]
        have := hR.newRow hf hdN hσ (es := List.replicate m (mkEl ie ie.zero)) (vss := List.replicate m (ie.zero.map zval)) (arr := (Array.range (n * k)).map ((if n * k = 0 then (#[] : Array Value) else z'.cells)[· % (if n * k = 0 then (#[] : Array Value) else z'.cells).size]!)) (cap := n) (ms := []) (ty := e) h1
          (REs_zero hzo (fun c hc => zok_ag (hzo c hc)) m _) (by simp) (fun j v hj => by
            obtain ⟨k1, k2⟩ := flat_rep _ _ _ _ hj
            simp only [List.length_map, hzlen, hsz] at k1 k2
            have hjn : j < n * k := Nat.lt_of_lt_of_le k1 (Nat.mul_le_mul_right k hmn)
            have hnk : ¬ n * k = 0 := by omega
            simp only [Array.toList_map, List.getElem?_map, Array.toList_range, List.getElem?_range hjn, Option.map_some, if_neg hnk]
            rw [← hzc, ← hzn] at k2
            simp only [Array.getElem?_toList] at k2
            rw [getElem!_def, k2]) (by simp; exact hmn) (by simp [hzlen, hsz])
        simpa [hzlen, hsz, St.move_nil] using this
      · cases h
    · cases h
end Go.Eng

set_option linter.unusedSimpArgs false
set_option linter.unusedVariables false
namespace Go.Eng
open Go.RowKit
variable {P : Program} {T : Nat → Option TI} {N : Nat}

def V.deepR : V → Bool
  | .rf _ p => !p.isEmpty
  | _ => false
def V.needs : V → Bool
  | .rf _ p => !p.isEmpty
  | .g xs => xs.any V.deepR
  | _ => false
def innerOK : Root → List Nat → Bool
  | .bx _, p => !p.isEmpty
  | .sv _, _ => true
def cut1 (st : St) : V → Option (PV × List (Nat × List Nat))
  | .c t => some (t, [])
  | .rf n p => (st.σ n).bind fun r => match r.node.get p with
    | some (.sl false k es) => if (r.node.own p && innerOK r p) = true then some (.sl false k es, [(n, p)]) else none
    | _ => none
  | _ => none
def cutL (st : St) : List V → Option (List PV × List (Nat × List Nat))
  | [] => some ([], [])
  | x :: xs => (cut1 st x).bind fun q => (cutL st xs).bind fun q' => if x.one = true then some (q.1 :: q'.1, q.2 ++ q'.2) else none
def cutV (st : St) : V → Option (D × List (Nat × List Nat))
  | .g xs => (cutL st xs).map fun q => (.g q.1, q.2)
  | x => (cut1 st x).map fun q => (.v q.1, q.2)
def ltOf (l : List (Nat × List Nat)) : Lt := l.map fun q => (q.1, some q.2)
def xxOf (l : List (Nat × List Nat)) : Up := l.map fun q => (q.1, q.2, .xx)
theorem cut1_ok {st : St} {x c l} (h : cut1 st x = some (c, l)) : LendC st x c (ltOf l) ∧ ∀ q ∈ xxOf l, UpOK st q := by
  cases x with
  | c t => simp only [cut1, Option.some.injEq, Prod.mk.injEq] at h; obtain ⟨rfl, rfl⟩ := h; exact ⟨⟨rfl, rfl⟩, by simp [xxOf]⟩
  | rf n p =>
    simp only [cut1, Option.bind_eq_some_iff] at h
    obtain ⟨r, hr, h⟩ := h
    split at h
    · rename_i k es hg
      split at h
      · rename_i hc
        simp only [Option.some.injEq, Prod.mk.injEq] at h
        obtain ⟨rfl, rfl⟩ := h
        simp only [Bool.and_eq_true] at hc
        refine ⟨⟨r, _, hr, hg, .inr ⟨rfl, rfl, hc.1, rfl⟩⟩, fun q hq => ?_⟩
        simp only [xxOf, List.map_cons, List.map_nil, List.mem_singleton] at hq
        subst hq
        simp only [UpOK, hr]
        cases r with
        | bx cs =>
          have hp : ¬ p = [] := by have := hc.2; simpa [innerOK] using this
          show if p = [] then _ else _
          rw [if_neg hp]
          exact .inr rfl
        | sv t => exact .inr rfl
      · cases h
    · cases h
  | _ => simp [cut1] at h
theorem cutL_ok {st : St} : ∀ {xs : List V} {cs : List PV} {l}, cutL st xs = some (cs, l) → LendCs st xs cs (ltOf l) ∧ ∀ q ∈ xxOf l, UpOK st q
  | [], cs, l, h => by simp only [cutL, Option.some.injEq, Prod.mk.injEq] at h; obtain ⟨rfl, rfl⟩ := h; exact ⟨rfl, by simp [xxOf]⟩
  | x :: xs, cs, l, h => by
    simp only [cutL, Option.bind_eq_some_iff] at h
    obtain ⟨⟨c, l1⟩, h1, ⟨cs', l2⟩, h2, h⟩ := h
    split at h
    · rename_i ho
      simp only [Option.some.injEq, Prod.mk.injEq] at h
      obtain ⟨rfl, rfl⟩ := h
      obtain ⟨k1, k2⟩ := cut1_ok h1
      obtain ⟨k3, k4⟩ := cutL_ok h2
      refine ⟨⟨_, _, by simp [ltOf], ho, k1, k3⟩, fun q hq => ?_⟩
      simp only [xxOf, List.map_append, List.mem_append] at hq
      exact hq.elim (k2 q) (k4 q)
    · cases h
theorem cutV_ok {st : St} {x d l} (h : cutV st x = some (d, l)) : Lends st [x] [d] (ltOf l) ∧ ∀ q ∈ xxOf l, UpOK st q := by
  cases x with
  | g xs =>
    simp only [cutV, Option.map_eq_some_iff] at h
    obtain ⟨⟨cs, l'⟩, h1, h⟩ := h
    cases h
    obtain ⟨k1, k2⟩ := cutL_ok h1
    exact ⟨⟨_, [], by simp, k1, rfl⟩, k2⟩
  | c t => simp only [cutV, Option.map_eq_some_iff] at h; obtain ⟨⟨c, l'⟩, h1, h⟩ := h; cases h; obtain ⟨k1, k2⟩ := cut1_ok h1; exact ⟨⟨_, [], by simp, k1, rfl⟩, k2⟩
  | rf n p => simp only [cutV, Option.map_eq_some_iff] at h; obtain ⟨⟨c, l'⟩, h1, h⟩ := h; cases h; obtain ⟨k1, k2⟩ := cut1_ok h1; exact ⟨⟨_, [], by simp, k1, rfl⟩, k2⟩
  | _ => simp [cutV, cut1] at h
theorem lentOf_ltOf (l : List (Nat × List Nat)) : lentOf (ltOf l) = l.map (·.1) := by
  induction l with
  | nil => rfl
  | cons q l ih => simp only [ltOf, List.map_cons, lentOf, List.filterMap_cons, Option.map_some] at ih ⊢; rw [← ih]

def cutBase : Nat := 90000000
def cutSt (st : St) (t : Nat) : Option St :=
  (cutV st (st.env t)).bind fun q =>
    if (q.2.map (·.1)).Nodup ∧ ((intros cutBase 0 [q.1]).2.map (·.1)).Nodup ∧ ((intros cutBase 0 [q.1]).2.all fun s => (decide ((st.back (xxOf q.2)).σ s.1 = none) && decide (s.1 < 100000000))) = true then
      some (((st.back (xxOf q.2)).news (intros cutBase 0 [q.1]).2).put (some t) ((intros cutBase 0 [q.1]).1.headD .dead)) else none
theorem Rel.cut {st st' : St} {t : Nat} (h : cutSt st t = some st') {fr a w} (hfr : FrOK P N fr) (hr : Rel fr st a w) : Rel fr st' a w := by
  obtain ⟨S, rv, hR⟩ := hr
  simp only [cutSt, Option.bind_eq_some_iff] at h
  obtain ⟨⟨d, l⟩, hc, h⟩ := h
  split at h
  · rename_i hcc
    cases h
    obtain ⟨hnd, hnn, hfr'⟩ := hcc
    obtain ⟨hl, hups⟩ := cutV_ok hc
    simp only at hnd hnn hfr'
    have hnd' : (lentOf (ltOf l)).Nodup := by rw [lentOf_ltOf]; exact hnd
    obtain ⟨S1, S2, u, hL⟩ := lent_all hR hl hnd'
    have hxs : VRs w fr.X st.σ rv [st.env t] [a.tmps.getD t undef] := by rw [VRs_cons]; exact ⟨_, _, rfl, hR.env t, by rw [VRs_nil]⟩
    have hno : ∀ n, (n, none) ∉ ltOf l := fun n hn => by simp [ltOf] at hn
    have hin := lend_ins hR hL (Zc := fr.X) (fun b h => h) (fun n b hn _ => absurd hn (hno n)) _ _ _ _ hxs hl (fun s h => h) hnd'
    have hlent : ∀ n ∈ lentOf (ltOf l), ∀ b, S1 n b → ∃ r, st.σ n = some r ∧ S n b := by
      intro n hn b hb
      obtain ⟨⟨m, q⟩, hs, e⟩ := List.mem_filterMap.1 hn
      cases q with
      | none => simp at e
      | some p =>
        simp at e; subst e
        obtain ⟨r, c0, hk⟩ := hL.all m p hs
        exact ⟨r, hk.σ, hk.sep.1 b hb⟩
    have hB : Backed w fr.X u (xxOf l) (fun _ => False) := by
      refine ⟨fun _ _ => False, fun n b h => h.elim, fun _ _ _ _ h => h.elim, fun q hq => ?_⟩
      simp only [xxOf, List.mem_map] at hq
      obtain ⟨q', _, rfl⟩ := hq
      show RV _ _ _ _ _
      rw [RV_xx]; trivial
    obtain ⟨S'', rv'', hR', hS''⟩ := hR.back hL (by
      simp only [xxOf, ltOf, List.map_map, Function.comp_def]
      exact (List.filter_eq_self.2 (fun q hq => by obtain ⟨x, _, rfl⟩ := List.mem_map.1 hq; rfl)).symm) hnd' hups hB rfl TD.refl rfl (Nat.le_refl _) (fun b _ _ => rfl) (fun b hb => hb.elim)
    have hfree : FreeN fr (st.back (xxOf l)) ((intros cutBase 0 [d]).2.map (·.1)) := by
      refine ⟨hnn, fun n hn => ?_⟩
      obtain ⟨s, hs, rfl⟩ := List.mem_map.1 hn
      have := List.all_eq_true.1 hfr' s hs
      simp only [Bool.and_eq_true, decide_eq_true_eq] at this
      refine ⟨this.1, ?_⟩
      cases e : fr.rv0 s.1 with
      | none => rfl
      | some v => have := hfr.names s.1 v e; omega
    have hio : InOK fr S'' (st.back (xxOf l)) w (fun b => ∃ n ∈ lentOf (ltOf l), S1 n b) := by
      refine ⟨?_, fun m r b hm h1 h2 => ?_⟩
      · rintro b ⟨n, hn, hs⟩
        obtain ⟨r, hr, hs⟩ := hlent n hn b hs
        exact hR.sout n r b hr hs
      · rcases hS'' m r b hm h1 with ⟨_, k2⟩ | k1
        · exact k2 h2
        · exact k1
    obtain ⟨S3, rv3, hR3, hx3, _⟩ := intros_ok (base := cutBase) [d] 0 [a.tmps.getD t undef] _ hR' hin hfree hio
    refine ⟨S3, rv3, { hR3 with env := fun t' => ?_ }⟩
    simp only [St.put]
    split
    · rename_i e
      subst e
      cases hi : (intros cutBase 0 [d]).1 with
      | nil => rw [hi, VRs_nil] at hx3; cases hx3
      | cons y ys =>
        rw [hi, VRs_cons] at hx3
        obtain ⟨v, vs', e, hy, _⟩ := hx3
        simp only [List.cons.injEq] at e
        rw [e.1]
        exact hy
    · exact hR3.env t'
  · cases h
def cutT (st : St) (t : Nat) : Option St := if (st.env t).needs = true then cutSt st t else some st
def cutO (st : St) : Operand → Option St
  | .tmp t => cutT st t
  | _ => some st
theorem Rel.cutO {st st' : St} {x : Operand} (h : cutO st x = some st') {fr a w} (hfr : FrOK P N fr) (hr : Rel fr st a w) : Rel fr st' a w := by
  cases x with
  | tmp t =>
    simp only [Go.Eng.cutO, cutT] at h
    split at h
    · exact hr.cut h hfr
    · cases h; exact hr
  | _ => simp only [Go.Eng.cutO, Option.some.injEq] at h; subst h; exact hr
def cutOs (st : St) : List Operand → Option St
  | [] => some st
  | x :: xs => (cutO st x).bind fun st => cutOs st xs
theorem Rel.cutOs : ∀ {xs : List Operand} {st st' : St}, cutOs st xs = some st' → ∀ {fr a w}, FrOK P N fr → Rel fr st a w → Rel fr st' a w
  | [], st, st', h, fr, a, w, hfr, hr => by simp only [Go.Eng.cutOs, Option.some.injEq] at h; subst h; exact hr
  | x :: xs, st, st', h, fr, a, w, hfr, hr => by
    simp only [Go.Eng.cutOs, Option.bind_eq_some_iff] at h
    obtain ⟨st1, h1, h2⟩ := h
    exact Rel.cutOs h2 hfr (hr.cutO h1 hfr)
theorem OpOK.cut {o : Oper} {st st1 st' : St} {xs : List Operand} (hc : Go.Eng.cutOs st xs = some st1) (h : OpOK P N o st1 st') : OpOK P N o st st' :=
  fun fr a w hf hr => h fr a w hf (hr.cutOs hc hf)
theorem OpOKE.cut {o : Oper} {st st1 st' : St} {xs : List Operand} (hc : Go.Eng.cutOs st xs = some st1) (h : OpOKE P N o st1 st') : OpOKE P N o st st' :=
  fun fr a w hf hr => h fr a w hf (hr.cutOs hc hf)
end Go.Eng

set_option linter.unusedSimpArgs false
set_option linter.unusedVariables false
namespace Go.Eng
open Go.RowKit
variable {P : Program} {T : Nat → Option TI} {N : Nat}

theorem RE_split {w Z b k} : ∀ (es fs : List PV) (o : Nat) (S : Nat → Prop), RE w Z (es ++ fs) b o k S → ∃ S1 S2, Sep S S1 S2 ∧ RE w Z es b o k S1 ∧ RE w Z fs b (o + es.length * k) k S2
  | [], fs, o, S, h => ⟨fun _ => False, S, ⟨fun _ h => h.elim, fun _ h => h, fun _ h _ => h⟩, by rw [RE_nil]; trivial, by simpa using h⟩
  | e :: es, fs, o, S, h => by
    rw [List.cons_append, RE_cons] at h
    obtain ⟨S1, S2, hsep, hn, h2⟩ := h
    obtain ⟨T1, T2, tsep, h3, h4⟩ := RE_split es fs (o + k) S2 h2
    refine ⟨fun x => S1 x ∨ T1 x, T2, ⟨fun x h => h.elim (hsep.1 x) (fun h => hsep.2.1 x (tsep.1 x h)), fun x h => hsep.2.1 x (tsep.2.1 x h), fun x h1 h2 => h1.elim (fun h => hsep.2.2 x h (tsep.2.1 x h2)) (fun h => tsep.2.2 x h h2)⟩, ?_, ?_⟩
    · rw [RE_cons]
      exact ⟨S1, T1, ⟨fun x h => .inl h, fun x h => .inr h, fun x h1 h2 => hsep.2.2 x h1 (tsep.1 x h2)⟩, hn, h3⟩
    · rw [List.length_cons, Nat.add_mul, Nat.one_mul, show o + (es.length * k + k) = o + k + es.length * k by omega]; exact h4
def xxEl (ag : Bool) (k : Nat) : PV := if ag then .ag (List.replicate k .xx) else .xx
theorem RC_xx {w Z b} : ∀ (k o : Nat) (S : Nat → Prop), (∀ j, o ≤ j → j < o + k → ∃ v, w.cell? ⟨b, j, none⟩ = some v) → RC w Z (List.replicate k .xx) b o S
  | 0, o, S, _ => by rw [List.replicate, RC_nil]; trivial
  | k + 1, o, S, h => by
    rw [List.replicate_succ, RC_cons]
    obtain ⟨v, hv⟩ := h o (Nat.le_refl _) (by omega)
    exact ⟨fun _ => False, fun _ => False, ⟨fun _ h => h.elim, fun _ h => h.elim, fun _ h _ => h⟩, ⟨v, hv, by rw [RV_xx]; trivial⟩, RC_xx k (o + 1) _ (fun j h1 h2 => h j (by omega) (by omega))⟩
theorem RE_xx {w Z b k ag} (hk : ag = false → k = 1) : ∀ (n o : Nat) (S : Nat → Prop), (∀ j, o ≤ j → j < o + n * k → ∃ v, w.cell? ⟨b, j, none⟩ = some v) → RE w Z (List.replicate n (xxEl ag k)) b o k S
  | 0, o, S, _ => by rw [List.replicate, RE_nil]; trivial
  | n + 1, o, S, h => by
    rw [List.replicate_succ, RE_cons]
    rw [Nat.add_mul, Nat.one_mul] at h
    refine ⟨fun _ => False, fun _ => False, ⟨fun _ h => h.elim, fun _ h => h.elim, fun _ h _ => h⟩, ?_, RE_xx hk n (o + k) _ (fun j h1 h2 => h j (by omega) (by omega))⟩
    cases ag with
    | true => exact ⟨by simp, RC_xx k o _ (fun j h1 h2 => h j h1 (by omega))⟩
    | false =>
      have hk1 := hk rfl
      subst hk1
      obtain ⟨v, hv⟩ := h o (Nat.le_refl _) (by omega)
      exact ⟨rfl, v, hv, by simp only [xxEl, Bool.false_eq_true, if_false]; rw [RV_xx]; trivial⟩
def killIn (n : Nat) (m : Nat) (p : List Nat) : Option (Nat × List Nat) := if m = n ∧ p ≠ [] then none else some (m, p)
def clrSt (T : Nat → Option TI) (st : St) (t : Nat) : V → Option St
  | .rn n [] (.sub lo hi k) => match st.σ n with
    | some (.sv (.sl false k' es)) => (T t).bind fun i => match i.kd with
      | .sl e kk _ => (T e).bind fun ie => if k' = k ∧ kk = k ∧ hi = es.length ∧ lo ≤ hi ∧ (ie.agg = false → k = 1) ∧ 0 < k then
          some { env := fun t => (st.env t).ren (killIn n) (killIn n), σ := fun m => if m = n then some (.sv (.sl false k (es.take lo ++ List.replicate (hi - lo) (xxEl ie.agg k)))) else st.σ m } else none
      | _ => none
    | _ => none
  | _ => none
theorem zeroCells_size (z : Array Value) (n : Nat) : (Builtin.zeroCells z n).size = n * z.size := by simp [Builtin.zeroCells]
theorem clr_op (hT : TOK P T) {o : Oper} {st st' : St} {c : Call} {x t} (ho : o.op = .call c) (hcal : c.callee = .builtin .clear) (hargs : c.args.toList = [x]) (hty : c.argTypes.toList = [t]) (hd : o.dst = none)
    (h : clrSt T st t (evalO st x) = some st') : OpOK P N o st st' :=
  OpOK.val fun fr S rv a w hf hR => by
    unfold clrSt at h
    split at h
    · rename_i n lo hi k hx
      split at h
      · rename_i k' es hσ
        simp only [Option.bind_eq_some_iff] at h
        obtain ⟨i, hi', h⟩ := h
        split at h
        · rename_i e kk by_ hk
          simp only [Option.bind_eq_some_iff] at h
          obtain ⟨ie, hie, h⟩ := h
          split at h
          · rename_i hc
            cases h
            obtain ⟨rfl, rfl, rfl, hlo, hag, hk0⟩ := hc
            obtain ⟨dd, hdd, _, hkd⟩ := (hT t i hi').und
            rw [hk] at hkd
            obtain ⟨rfl, ie', hie', hs', hb'⟩ := hkd
            obtain ⟨inf, z, hinf, hisz, hz, hzc, hzo, _⟩ := (hT e ie hie).inf
            rw [hie'] at hinf; cases hinf
            have hzs : z.cells.size = kk := by
              have := congrArg List.length hzc
              simp at this
              rw [this, (hT e ie hie).len, ← hisz, hs']
            have hzone : ∀ v ∈ z.cells.toList, v.oneCell' = true := by
              intro v hv
              rw [hzc] at hv
              obtain ⟨pv, hpv, rfl⟩ := List.mem_map.1 hv
              have := hzo pv hpv
              cases pv with
              | sc u => exact this
              | sl f k es => rfl
              | _ => simp [zok] at this
            have hv := evalO_ok hR x
            rw [hx, VR_rn] at hv
            obtain ⟨u, hu, A, m, cap, rfl, hmc, _, him, hv⟩ := hv
            rw [VR_rf] at hu
            obtain ⟨r, hr, hat, _⟩ := hu
            rw [hσ] at hr
            cases hr
            simp only [rAt, Option.some.injEq] at hat
            obtain ⟨_, hrv⟩ := hR.rr n _ hσ
            rw [hat, RV_ow] at hrv
            have hca : c.args = #[x] := by rw [← Array.toArray_toList (xs := c.args), hargs]
            have hct : c.argTypes = #[t] := by rw [← Array.toArray_toList (xs := c.argTypes), hty]
            -- the run, and the root behind it
            have key : ∃ w', (Builtin.clear_ #[t] o.type #[a.eval x]).run P w = .ok (.tuple #[]) w' ∧ w'.os = w.os ∧ TD w w' ∧ w'.output = w.output ∧ w'.heap.size = w.heap.size ∧
                (∀ b, ¬ S n b → w'.heap[b]? = w.heap[b]?) ∧ RR w' fr.X (.sv (.sl false kk (es.take lo ++ List.replicate (es.length - lo) (xxEl ie.agg kk)))) (rv n) (S n) := by
              have hlen : (es.take lo ++ List.replicate (es.length - lo) (xxEl ie.agg kk)).length = es.length := by simp; omega
              rcases hrv with ⟨h1, h2⟩ | ⟨b, cap', cur, ty, h1, h2, h3, h4, h5, h6⟩
              · cases h1
                have h0 : es = [] := List.length_eq_zero_iff.1 h2
                subst h0
                refine ⟨w, ?_, rfl, TD.refl, rfl, rfl, fun _ _ => rfl, rfl, ?_⟩
                · rw [hv]; simp [Builtin.clear_, run_underlying hdd]
                · rw [hat, RV_ow]; left; exact ⟨rfl, by simp⟩
              · cases h1
                by_cases hn0 : es.length - lo = 0
                · have hle : es.take lo = es := List.take_of_length_le (by omega)
                  refine ⟨w, ?_, rfl, TD.refl, rfl, rfl, fun _ _ => rfl, rfl, ?_⟩
                  · rw [hv, hn0]
                    split <;> simp [Builtin.clear_, run_underlying hdd]
                  · rw [hat, hn0, hle, List.replicate, List.append_nil, RV_ow]; right; exact ⟨b, cap, cur, ty, rfl, h2, h3, h4, h5, h6⟩
                · have hcl : ¬ cap = lo := by omega
                  have hle : es.length * kk ≤ cap * kk := Nat.mul_le_mul_right _ h2
                  have hlk : lo * kk + (es.length - lo) * kk = es.length * kk := by rw [← Nat.add_mul]; congr 1; omega
                  have hzl : (Builtin.zeroCells z.cells (es.length - lo)).toList.length = (es.length - lo) * kk := by rw [Array.length_toList, zeroCells_size, hzs]
                  have hone : ∀ v ∈ (Builtin.zeroCells z.cells (es.length - lo)).toList, v.oneCell' = true := by
                    intro v hv
                    simp only [Builtin.zeroCells, Array.toList_map, List.mem_map, Array.toList_range, List.mem_range] at hv
                    obtain ⟨j, hj, rfl⟩ := hv
                    have hjm : j % z.cells.size < z.cells.size := Nat.mod_lt _ (by omega)
                    refine hzone _ ?_
                    rw [getElem!_pos z.cells _ hjm]
                    exact Array.mem_toList_iff.2 (Array.getElem_mem hjm)
                  have hrun := run_storeCells_at (P := P) b (lo * kk) ty (Builtin.zeroCells z.cells (es.length - lo)).toList 0 cur w h4 (by rw [hzl]; omega) hone
                  obtain ⟨w', hw'⟩ : ∃ w', w.setRow b (cur.toList.take (lo * kk + 0) ++ (Builtin.zeroCells z.cells (es.length - lo)).toList ++ cur.toList.drop (lo * kk + 0 + (Builtin.zeroCells z.cells (es.length - lo)).toList.length)).toArray = w' := ⟨_, rfl⟩
                  rw [hw'] at hrun
                  have hheap := setRow_heap w b cur (cur.toList.take (lo * kk + 0) ++ (Builtin.zeroCells z.cells (es.length - lo)).toList ++ cur.toList.drop (lo * kk + 0 + (Builtin.zeroCells z.cells (es.length - lo)).toList.length)).toArray ty (0, 0) h4
                  rw [hw'] at hheap
                  have hoth : ∀ q, q ≠ b → w'.heap[q]? = w.heap[q]? := fun q hq => by rw [← hw']; exact setRow_other w b q _ hq
                  have hsz2 : (cur.toList.take (lo * kk + 0) ++ (Builtin.zeroCells z.cells (es.length - lo)).toList ++ cur.toList.drop (lo * kk + 0 + (Builtin.zeroCells z.cells (es.length - lo)).toList.length)).toArray.size = cap * kk := by
                    simp only [List.size_toArray, List.length_append, List.length_take, List.length_drop, Array.length_toList, hzl, h5]
                    have : min (lo * kk + 0) (cap * kk) = lo * kk := by omega
                    rw [this]; omega
                  have hcells : ∀ j, j < lo * kk → w'.cell? ⟨b, j, none⟩ = w.cell? ⟨b, j, none⟩ := by
                    intro j hj
                    simp only [World.cell?, hheap, h4, Option.isSome_none, Bool.false_eq_true, if_false, List.getElem?_toArray]
                    rw [List.append_assoc, List.getElem?_append_left (by simp; omega), List.getElem?_take, if_pos (by omega), Array.getElem?_toList]
                  refine ⟨w', ?_, by rw [← hw']; rfl, by rw [← hw']; exact ⟨rfl, Nat.le_refl _⟩, by rw [← hw']; rfl, by rw [← hw']; simp, fun q hq => hoth q (fun e => hq (e ▸ h3)), rfl, ?_⟩
                  · rw [hv, if_neg hcl]
                    simp only [Option.map_some]
                    obtain ⟨q, hq⟩ : ∃ q, es.length - lo = q + 1 := ⟨es.length - lo - 1, by omega⟩
                    have hrun2 : (storeCells ((⟨b, 0, none⟩ : Addr).add (lo * kk)) (Builtin.zeroCells z.cells (es.length - lo)).toList 0).run P w = .ok () w' := by
                      rw [show (⟨b, 0, none⟩ : Addr).add (lo * kk) = ⟨b, lo * kk, none⟩ by rw [add_none, Nat.zero_add]]; exact hrun
                    rw [hq] at hrun2 ⊢
                    obtain ⟨A2, hA2⟩ : ∃ A2, (⟨b, 0, none⟩ : Addr).add (lo * kk) = A2 := ⟨_, rfl⟩
                    rw [hA2] at hrun2 ⊢
                    simp [Builtin.clear_, run_underlying hdd, zeroValue, typeInfo, hie', hz, hrun2]
                  · rw [hat, RV_ow]
                    right
                    refine ⟨b, cap, _, ty, by rw [hlen], by rw [hlen]; exact h2, h3, hheap, hsz2, ?_⟩
                    have h6' := h6
                    rw [← List.take_append_drop lo es] at h6'
                    obtain ⟨S1, S2, hsep, k1, k2⟩ := RE_split (es.take lo) (es.drop lo) 0 _ h6'
                    have htl : (es.take lo).length = lo := by simp; omega
                    have hX : Agr w w' fr.X := fun q hq => hoth q (fun e => by subst e; exact (hR.sout n _ q hσ h3).2.1 (hR.xy q hq))
                    have hS1 : Agr w w' S1 := fun q hq => hoth q (hsep.1 q hq).2
                    refine RE_mono (S := fun x => S1 x ∨ False) (fun q hq => hq.elim (hsep.1 q) (fun h => h.elim)) (RE_append _ _ 0 S1 (fun _ => False) (RE_congr hX (fun _ h => h) _ b 0 kk S1 S1 hS1 (fun _ h => h) (fun j h1 h2 => hcells j (by rw [htl] at h2; omega)) k1) (RE_xx hag _ _ _ (fun j h1 h2 => ?_)) (fun _ _ h => h))
                    rw [htl] at h1 h2
                    have hjc : j < (cur.toList.take (lo * kk + 0) ++ (Builtin.zeroCells z.cells (es.length - lo)).toList ++ cur.toList.drop (lo * kk + 0 + (Builtin.zeroCells z.cells (es.length - lo)).toList.length)).toArray.size := by rw [hsz2]; omega
                    exact ⟨_, by simp only [World.cell?, hheap, Option.isSome_none, Bool.false_eq_true, if_false]; exact Array.getElem?_eq_getElem hjc⟩
            obtain ⟨w', hrun, hos, htd, hout, hsz, hoth, hRR⟩ := key
            refine ⟨.tuple #[], w', ?_, ?_⟩
            · rw [run_builtin_call ho hcal]
              simp only [builtin, hca, hct, List.map_toArray, List.map_cons, List.map_nil, Sem.run_bind, hrun, Result.andThen_ok, Sem.run_pure]
            · rw [hd]
              have hput : a.put none (.tuple #[]) = a := rfl
              rw [hput]
              refine ⟨S, rv, hR.change (C := fun m => m = n) hos htd hout (by omega) (fun q hq => hoth q (fun h => (hR.sout n _ q hσ h).2.1 hq)) ?_ ?_ (fun _ _ => rfl) (fun _ _ => rfl) ?_ ?_ ?_ ?_ (killIn n) (killIn n) ?_ ?_ ?_ ?_⟩
              · intro m r hm hr q hq
                exact hoth q (fun h => hR.sdis m n r _ q hr hσ hm hq h)
              · intro m hm; simp [hm]
              · intro m r hm hr
                subst hm
                simp only [if_true, Option.some.injEq] at hr
                subst hr
                exact hRR
              · intro m r q hm hr hq
                subst hm
                exact .inr ⟨m, _, rfl, hσ, hq⟩
              · intro m1 m2 r1 r2 q h1 h2 _ _ hne; exact absurd (h1.trans h2.symm) hne
              · intro m r v hm hr hv
                subst hm
                exact hR.rv0 m _ v hσ hv
              · intro m p v hm hv
                subst hm
                unfold killIn
                by_cases hp : p = []
                · subst hp
                  simp only [ne_eq, not_true_eq_false, and_false, if_false]
                  rw [VR_rf] at *
                  obtain ⟨r, hr, hat2, _⟩ := hv
                  rw [hσ] at hr; cases hr
                  exact ⟨.sv (.sl false kk (es.take lo ++ List.replicate (es.length - lo) (xxEl ie.agg kk))), by simp, by simpa [rAt] using hat2, _, _, _, rfl⟩
                · simp [hp]
              · intro m p ov v hm hv
                subst hm
                unfold killIn
                by_cases hp : p = []
                · subst hp
                  rw [VR_pt] at hv
                  obtain ⟨r, b, o', hr, hl, _⟩ := hv
                  rw [hσ] at hr; cases hr
                  simp [rLoc] at hl
                · simp [hp]
              · intro m p hm; simp [killIn, hm]
              · intro m p hm; simp [killIn, hm]
          · cases h
        · cases h
      · cases h
    · cases h
end Go.Eng

set_option linter.unusedSimpArgs false
set_option linter.unusedVariables false
namespace Go.Eng
open Go.RowKit
variable {P : Program} {T : Nat → Option TI} {N : Nat}

def valSt (T : Nat → Option TI) (N : Nat) (st : St) (o : Oper) : Option St := (valV T st o).bind fun y => if dIn N o.dst = true then some (st.put o.dst y) else none
def stepF (T : Nat → Option TI) (N : Nat) (st : St) (o : Oper) : Option St :=
  match o.op with
  | .box t x => match o.dst with | some d => (cutO st x).bind fun st => boxSt T N st t (evalO st x) d | none => none
  | .alloc t => match o.dst with | some d => allocSt T N st t d | none => none
  | .buildSlice t n ps => match o.dst with | some d => (cutOs st (ps.toList.map (·.2))).bind fun st => buildSlSt T N st t n (ps.toList.map fun q => (q.1, evalO st q.2)) d | none => none
  | .makeSlice t l c => match o.dst with | some d => mkSlSt T N st t (evalO st l) (evalO st c) d | none => none
  | .store t p x => match o.dst with | none => (cutO st x).bind fun st => storeSt T st t (evalO st p) (evalO st x) | some _ => none
  | .assign x => match o.dst, evalO st x with
      | some d, .nl => nilSt T N st o.type d
      | _, _ => valSt T N st o
  | .call c => match o.dst, c.callee, c.args.toList, c.argTypes.toList with
      | some d, .builtin .append, [s, x], [t, t2] => (cutO st x).bind fun st => appSt T N st t t2 (evalO st s) (evalO st x) d
      | none, .builtin .clear, [x], [t] => clrSt T st t (evalO st x)
      | _, _, _, _ => valSt T N st o
  | _ => valSt T N st o

theorem valSt_ok (hT : TOK P T) {o : Oper} {st st' : St} (h : valSt T N st o = some st') : OpOK P N o st st' := by
  simp only [valSt, Option.bind_eq_some_iff] at h
  obtain ⟨y, hy, h⟩ := h
  split at h
  · rename_i hd; cases h; exact valV_op hT hy hd
  · cases h
theorem cutOs_one {st st1 : St} {x : Operand} (h : cutO st x = some st1) : cutOs st [x] = some st1 := by simp [cutOs, h]
theorem stepF_ok (hT : TOK P T) {o : Oper} {st st' : St} (h : stepF T N st o = some st') : OpOK P N o st st' := by
  unfold stepF at h
  split at h
  · rename_i t x ho
    split at h
    · rename_i d hd; obtain ⟨st1, hc, h⟩ := Option.bind_eq_some_iff.1 h; exact (box_op hT ho hd h).cut (cutOs_one hc)
    · cases h
  · rename_i t ho
    split at h
    · rename_i d hd; exact alloc_op hT ho hd h
    · cases h
  · rename_i t n ps ho
    split at h
    · rename_i d hd; obtain ⟨st1, hc, h⟩ := Option.bind_eq_some_iff.1 h; exact (buildSl_op hT ho hd h).cut hc
    · cases h
  · rename_i t l c ho
    split at h
    · rename_i d hd; exact (mkSl_opE hT ho hd h).ok
    · cases h
  · rename_i t p x ho
    split at h
    · rename_i hd; obtain ⟨st1, hc, h⟩ := Option.bind_eq_some_iff.1 h; exact (store_op hT ho hd h).cut (cutOs_one hc)
    · cases h
  · rename_i x ho
    split at h
    · rename_i d hd hx; exact nil_op hT ho hd hx h
    · exact valSt_ok hT h
  · rename_i c ho
    split at h
    · rename_i d s x t t2 hd hcal hargs hty; obtain ⟨st1, hc, h⟩ := Option.bind_eq_some_iff.1 h; exact (app_op hT ho hcal hargs hty hd h).cut (cutOs_one hc)
    · rename_i x t hd hcal hargs hty; exact clr_op hT ho hcal hargs hty hd h
    · exact valSt_ok hT h
  · exact valSt_ok hT h

structure CallStep (P : Program) (N : Nat) (o : Oper) (st st' : St) (c : Call) (cal : Operand) (f : Nat) (caps : List V) (ins outs res : List D) (l : Lt) : Prop where
  op : o.op = .call c
  callee : c.callee = .value cal
  fn : evalO st cal = .fn f caps
  body : HasBody P f
  spec : ACall P f ins outs res
  ok : CallOK N st o.dst (c.args.toList.map (evalO st) ++ caps) ins outs res l
  st' : st' = callSt st o.dst (backs (c.args.toList.map (evalO st) ++ caps) ins outs) res
inductive Step (P : Program) (T : Nat → Option TI) (N : Nat) (o : Oper) (st st' : St) : Prop
  | f (h : stepF T N st o = some st')
  | call (c : Call) (cal : Operand) (f : Nat) (caps : List V) (ins outs res : List D) (l : Lt) (h : CallStep P N o st st' c cal f caps ins outs res l)
theorem Step.ok (hT : TOK P T) {o : Oper} {st st' : St} (h : Step P T N o st st') : OpOK P N o st st' := by
  cases h with
  | f h => exact stepF_ok hT h
  | call c cal f caps ins outs res l h => obtain ⟨h1, h2, h3, h4, h5, h6, rfl⟩ := h; exact call_op h1 h2 h3 h4 h5 h6

def wantV (want : Bool) : V → Option Bool
  | .c (.sc (.bool b)) => some (b == want)
  | .tu [] => some false
  | _ => none
def guardV (ops : Array Oper) (st : St) (o : Oper) : Option Bool :=
  match o.guard with
  | none => some true
  | some (j, want) => match (ops[j]?).bind (·.dst) with
      | some d => wantV want (st.env d)
      | none => none
theorem guardV_ok {fr S rv st a w} (h : Rel0 fr S rv st a w) {ops : Array Oper} {o : Oper} {g : Bool} (hg : guardV ops st o = some g) : Region.wanted o (yielded ops a.tmps) = g := by
  unfold guardV at hg
  unfold Region.wanted
  split at hg
  · rename_i e; cases hg; simp [e]
  · rename_i j want e
    split at hg
    · rename_i d hd
      have hx := h.env d
      unfold wantV at hg
      split at hg
      · rename_i b hb
        cases hg
        rw [hb, VR_c, RV_sc] at hx
        have hlt : d < a.tmps.size := by
          rcases Nat.lt_or_ge d a.tmps.size with hh | hh
          · exact hh
          · simp [Array.getElem?_eq_none hh] at hx
            cases hx
        simp only [e, yielded, hd, Option.bind_some]
        rw [show a.tmps[d]? = some (Value.bool b) by rw [← hx]; simp [hlt]]
        cases b <;> cases want <;> rfl
      · rename_i hb
        cases hg
        rw [hb, VR_tu] at hx
        obtain ⟨arr, hx, _⟩ := hx
        simp only [e, yielded, hd, Option.bind_some]
        rcases Nat.lt_or_ge d a.tmps.size with hh | hh
        · rw [show a.tmps[d]? = some (Value.tuple arr) by rw [← hx]; simp [hh]]
          rfl
        · rw [Array.getElem?_eq_none hh]
          rfl
      · cases hg
    · cases hg

inductive OpR (P : Program) (T : Nat → Option TI) (N : Nat) (ops : Array Oper) (o : Oper) (st st' : St) : Prop
  | yes (hg : guardV ops st o = some true) (h : Step P T N o st st')
  | no (hg : guardV ops st o = some false) (hd : dIn N o.dst = true) (h : st' = st.put o.dst (.tu []))
theorem OpR.wpOp (hT : TOK P T) {ops : Array Oper} {o : Oper} {st st' : St} (h : OpR P T N ops o st st') {fr a w} (hf : FrOK P N fr) (hr : Rel fr st a w) {i : Nat} (hi : ops[i]? = some o) {Q : Exit → Act → World → Prop} {K : Act → World → Prop}
    (hK : ∀ a w, Rel fr st' a w → K a w) : wpOp P ops Q i K a w := by
  obtain ⟨S, rv, hR⟩ := hr
  cases h with
  | yes hg h =>
    have hw := guardV_ok hR hg
    unfold Go.wpOp
    simp only [hi, hw, if_true]
    refine .inl (wp_weak (h.ok hT fr a w hf ⟨S, rv, hR⟩) ?_)
    exact fun a w h => hK a w h
  | no hg hd h =>
    have hw := guardV_ok hR hg
    unfold Go.wpOp
    simp only [hi, hw, Bool.false_eq_true, if_false]
    subst h
    exact hK _ _ ⟨S, rv, hR.put (hf.n ▸ dOK_of hd) (by rw [VR_tu]; exact ⟨#[], rfl, by rw [VRs_nil]⟩)⟩
where
  wp_weak {o : Oper} {a : Act} {w : World} {K K' : Act → World → Prop} {Q : Exit → Act → World → Prop} (h : o.wp P a w K (fun _ _ _ => False)) (hk : ∀ a w, K a w → K' a w) : o.wp P a w K' Q := by
    unfold Oper.wp at *
    generalize (execOp a.eval o).run P w = r at *
    cases r with
    | ok n w' =>
      cases n <;> simp only [Oper.upon] at h ⊢ <;>
        first
          | exact hk _ _ h
          | exact Calls.mono h (fun e w'' he => by cases e <;> first | exact hk _ _ he | exact he.elim | (obtain ⟨_, _, he⟩ := he; exact he.elim))
          | exact Rows.mono h (fun _ _ he => hk _ _ he)
    | halt x w' => cases x <;> simp only [Oper.upon] at h ⊢ <;> first | exact h.elim | exact h

inductive OpsR (P : Program) (T : Nat → Option TI) (N : Nat) (ops : Array Oper) : List Nat → St → St → Prop
  | nil (st : St) : OpsR P T N ops [] st st
  | cons {i : Nat} {l : List Nat} {o : Oper} {st st1 st2 : St} (hi : ops[i]? = some o) (h : OpR P T N ops o st st1) (hl : OpsR P T N ops l st1 st2) : OpsR P T N ops (i :: l) st st2
theorem OpsR.wpOps (hT : TOK P T) {ops : Array Oper} {fr : Fr} (hf : FrOK P N fr) {Q : Exit → Act → World → Prop} : ∀ {l st st'}, OpsR P T N ops l st st' → ∀ a w, Rel fr st a w → (∀ a w, Rel fr st' a w → Q .normal a w) → Go.wpOps P ops Q l a w := by
  intro l st st' h
  induction h with
  | nil st => intro a w hr hQ; exact hQ a w hr
  | cons hi h hl ih =>
    intro a w hr hQ
    rw [wpOps_cons]
    exact h.wpOp hT hf hr hi (fun a w hr' => ih a w hr' hQ)
theorem AW.region (hT : TOK P T) {id : Nat} {ops : Array Oper} {st st' : St} {Q : Exit → St → Prop} (h : OpsR P T N ops (List.range ops.size) st st') (hQ : Q .normal st') : AW P N (.region id ops false) st Q :=
  fun fr a w hf hr => wp_region (h.wpOps hT hf a w hr (fun a w hr' => ⟨st', hQ, hr'⟩))
end Go.Eng

set_option linter.unusedSimpArgs false
set_option linter.unusedVariables false
namespace Go.Eng
open Go.RowKit
variable {P : Program} {T : Nat → Option TI} {N : Nat}

def lookR (rs : List (Nat × Root)) (m : Nat) : Option Root :=
  match rs with
  | [] => none
  | (n, r) :: rs => if n = m then some r else lookR rs m
def st0 (ins : List D) : St :=
  ({ env := fun t => ((intros 100000000 0 ins).1[t]?).getD .dead, σ := fun _ => none } : St).news (intros 100000000 0 ins).2

def resVs (T : Nat → Option TI) (st : St) : List ResultVar → Option (List V)
  | [] => some []
  | .tmp t :: l => (liveV (st.env t)).bind fun x => (resVs T st l).bind fun xs => some (x :: xs)
  | .cell a t :: l => (T t).bind fun i => (loadV i.agg i.size st (st.env a)).bind fun x => (resVs T st l).bind fun xs => some (x :: xs)

def resSem (tmps : Array Value) : ResultVar → Sem Value
  | .tmp t => pure (tmps.getD t undef)
  | .cell ad t => do loadVar t (← asAddr (tmps.getD ad undef))
theorem results_eq (fn : Func) (tmps : Array Value) : Go.results fn tmps = (do let vs ← fn.results.mapM (resSem tmps); pure (if h : vs.size = 1 then vs[0] else .tuple vs)) := by
  unfold Go.results
  have : (fun x => match x with | .tmp t => pure (tmps.getD t undef) | .cell a t => do loadVar t (← asAddr (tmps.getD a undef)) : ResultVar → Sem Value) = resSem tmps := by
    funext x; cases x <;> rfl
  rw [← this]
  rfl
theorem loadV_ptr {fr S rv st a w} (h : Rel0 fr S rv st a w) {agg sz x v y} (hx : VR w fr.X st.σ rv x v) (hl : loadV agg sz st x = some y) : ∃ ad, v = .pointer (some ad) := by
  unfold loadV at hl
  cases x with
  | pt n p o => rw [VR_pt] at hx; obtain ⟨r, b, o', _, _, rfl⟩ := hx; exact ⟨_, rfl⟩
  | fp cs o => rw [VR_fp] at hx; obtain ⟨b, o', rfl, _⟩ := hx; exact ⟨_, rfl⟩
  | _ => simp at hl
theorem resVs_ok (hT : TOK P T) {fr S rv st a w} (h : Rel0 fr S rv st a w) : ∀ (l : List ResultVar) (xs : List V), resVs T st l = some xs →
    ∃ vs, (l.mapM (resSem a.tmps)).run P w = .ok vs w ∧ VRs w fr.X st.σ rv xs vs
  | [], xs, hr => by simp only [resVs, Option.some.injEq] at hr; subst hr; exact ⟨[], by simp, by rw [VRs_nil]⟩
  | .tmp t :: l, xs, hr => by
    simp only [resVs, Option.bind_eq_some_iff, Option.some.injEq] at hr
    obtain ⟨x, hx, xs', hxs, rfl⟩ := hr
    have := liveV_some hx; subst this
    obtain ⟨vs, hrun, hv⟩ := resVs_ok hT h l xs' hxs
    exact ⟨a.tmps.getD t undef :: vs, by simp only [List.mapM_cons, resSem, Sem.run_bind, Sem.run_pure, Result.andThen_ok, hrun], by rw [VRs_cons]; exact ⟨_, _, rfl, h.env t, hv⟩⟩
  | .cell ad t :: l, xs, hr => by
    simp only [resVs, Option.bind_eq_some_iff, Option.some.injEq] at hr
    obtain ⟨i, hi, x, hx, xs', hxs, rfl⟩ := hr
    obtain ⟨vs, hrun, hv⟩ := resVs_ok hT h l xs' hxs
    obtain ⟨u, hu, hur⟩ := load_ok (P := P) h (hT t i hi) (h.env ad) hx
    obtain ⟨ad', had⟩ := loadV_ptr h (h.env ad) hx
    refine ⟨u :: vs, ?_, by rw [VRs_cons]; exact ⟨_, _, rfl, hur, hv⟩⟩
    rw [had] at hu
    have hu := hu w (.refl w)
    simp only [Instr.loadAt, Instr.sureAddr, Sem.run_bind, Sem.run_pure, Result.andThen_ok] at hu
    have ha : (asAddr (a.tmps.getD ad undef)).run P w = .ok ad' w := by rw [had]; rfl
    simp only [List.mapM_cons, Sem.run_bind, resSem, ha, Sem.run_pure, Result.andThen_ok, hu, hrun]

structure Finish (T : Nat → Option TI) (results : List ResultVar) (ins outs res : List D) (st : St) : Prop where
  ex : ∃ xs rxs l, xs.length = ins.length ∧ (∀ (i : Nat) (x : V), xs[i]? = some x → x = V.dead ∨ (intros 100000000 0 ins).1[i]? = some x) ∧ resVs T st results = some rxs ∧
    Lends st (xs ++ rxs) (outs ++ res) l ∧ (lentOf l).Nodup ∧ (∀ n, (n, none) ∉ l) ∧ outs.length = ins.length

theorem DRs_append {w Z} : ∀ {ds1 ds2 : List D} {vs1 vs2 : List Value} {S : Nat → Prop}, vs1.length = ds1.length → DRs w Z (ds1 ++ ds2) (vs1 ++ vs2) S → ∃ S1 S2, Sep S S1 S2 ∧ DRs w Z ds1 vs1 S1 ∧ DRs w Z ds2 vs2 S2
  | [], ds2, [], vs2, S, hl, h => ⟨fun _ => False, S, ⟨fun _ h => h.elim, fun _ h => h, fun _ h _ => h⟩, rfl, h⟩
  | d :: ds1, ds2, v :: vs1, vs2, S, hl, h => by
    obtain ⟨v', vs', T1, T2, e, hsep, h1, h2⟩ := h
    simp only [List.cons_append, List.cons.injEq] at e
    obtain ⟨rfl, rfl⟩ := e
    obtain ⟨A, B, hsep2, k1, k2⟩ := DRs_append (by simpa using hl) h2
    refine ⟨fun x => T1 x ∨ A x, B, ⟨fun x h => h.elim (hsep.1 x) (fun h => hsep.2.1 x (hsep2.1 x h)), fun x h => hsep.2.1 x (hsep2.2.1 x h), fun x h hb => h.elim (fun h => hsep.2.2 x h (hsep2.2.1 x hb)) (fun h => hsep2.2.2 x h hb)⟩, ?_, k2⟩
    exact ⟨v, vs1, T1, A, rfl, ⟨fun x h => .inl h, fun x h => .inr h, fun x h h' => hsep.2.2 x h (hsep2.1 x h')⟩, h1, k1⟩
  | [], ds2, v :: vs1, vs2, S, hl, h => by simp at hl
  | d :: ds1, ds2, [], vs2, S, hl, h => by simp at hl

mutual
def V.refs : V → List Nat
  | .g cs => V.refss cs
  | .rf n _ => [n]
  | .rn n _ _ => [n]
  | .pt n _ _ => [n]
  | .fn _ cs => V.refss cs
  | .tu cs => V.refss cs
  | _ => []
def V.refss : List V → List Nat
  | [] => []
  | x :: xs => x.refs ++ V.refss xs
end
mutual
theorem VR_later {w w' : World} {Z : Nat → Prop} {σ σ' rv rv'} (hz : Agr w w' Z) : ∀ (x : V) (v : Value),
    (∀ n ∈ x.refs, ∀ p u, VR w Z σ rv (.rf n p) u → VR w' Z σ' rv' (.rf n p) u) → (∀ n ∈ x.refs, ∀ p o u, VR w Z σ rv (.pt n p o) u → VR w' Z σ' rv' (.pt n p o) u) → VR w Z σ rv x v → VR w' Z σ' rv' x v
  | .c t, v, _, _, h => by rw [VR_c] at *; exact RV_congr hz (fun _ h => h) t v _ _ (fun _ h => h.elim) (fun _ h => h) h
  | .nl, v, _, _, h => by rw [VR_nl] at *; exact h
  | .g cs, v, h1, h2, h => by
    rw [VR_g] at *
    obtain ⟨arr, rfl, h⟩ := h
    exact ⟨arr, rfl, VRs_later hz cs _ (fun n hn => h1 n hn) (fun n hn => h2 n hn) h⟩
  | .rf n p, v, h1, h2, h => h1 n (by simp [V.refs]) p v h
  | .rn n p s, v, h1, h2, h => by
    rw [VR_rn] at *
    obtain ⟨u, hu, hs⟩ := h
    exact ⟨u, h1 n (by simp [V.refs]) p u hu, hs⟩
  | .pt n p o, v, h1, h2, h => h2 n (by simp [V.refs]) p o v h
  | .fp cs o, v, _, _, h => by
    rw [VR_fp] at *
    obtain ⟨b, o', rfl, hb, h⟩ := h
    exact ⟨b, o', rfl, hb, RC_congr hz (fun _ h => h) cs b o' _ _ (fun _ h => h.elim) (fun _ h => h) (fun _ _ _ => hz.cell hb) h⟩
  | .fn f cs, v, h1, h2, h => by
    rw [VR_fn] at *
    obtain ⟨arr, rfl, h⟩ := h
    exact ⟨arr, rfl, VRs_later hz cs _ (fun n hn => h1 n hn) (fun n hn => h2 n hn) h⟩
  | .tu cs, v, h1, h2, h => by
    rw [VR_tu] at *
    obtain ⟨arr, rfl, h⟩ := h
    exact ⟨arr, rfl, VRs_later hz cs _ (fun n hn => h1 n hn) (fun n hn => h2 n hn) h⟩
  | .dead, v, _, _, h => by rw [VR_dead]; trivial
theorem VRs_later {w w' : World} {Z : Nat → Prop} {σ σ' rv rv'} (hz : Agr w w' Z) : ∀ (xs : List V) (vs : List Value),
    (∀ n ∈ V.refss xs, ∀ p u, VR w Z σ rv (.rf n p) u → VR w' Z σ' rv' (.rf n p) u) → (∀ n ∈ V.refss xs, ∀ p o u, VR w Z σ rv (.pt n p o) u → VR w' Z σ' rv' (.pt n p o) u) → VRs w Z σ rv xs vs → VRs w' Z σ' rv' xs vs
  | [], vs, _, _, h => by rw [VRs_nil] at *; exact h
  | x :: xs, vs, h1, h2, h => by
    rw [VRs_cons] at *
    obtain ⟨v, vs', rfl, k1, k2⟩ := h
    exact ⟨v, vs', rfl, VR_later hz x v (fun n hn => h1 n (by simp only [V.refss]; exact List.mem_append.2 (.inl hn))) (fun n hn => h2 n (by simp only [V.refss]; exact List.mem_append.2 (.inl hn))) k1,
      VRs_later hz xs vs' (fun n hn => h1 n (by simp only [V.refss]; exact List.mem_append.2 (.inr hn))) (fun n hn => h2 n (by simp only [V.refss]; exact List.mem_append.2 (.inr hn))) k2⟩
end

mutual
theorem refs_live {w Z σ rv} : ∀ (x : V) (v : Value), VR w Z σ rv x v → ∀ n ∈ x.refs, ∃ r, σ n = some r
  | .c t, v, h, n, hn => by simp [V.refs] at hn
  | .nl, v, h, n, hn => by simp [V.refs] at hn
  | .g cs, v, h, n, hn => by rw [VR_g] at h; obtain ⟨arr, rfl, h⟩ := h; exact refss_live cs _ h n hn
  | .rf m p, v, h, n, hn => by simp [V.refs] at hn; subst hn; rw [VR_rf] at h; obtain ⟨r, hr, _⟩ := h; exact ⟨r, hr⟩
  | .rn m p s, v, h, n, hn => by simp [V.refs] at hn; subst hn; rw [VR_rn] at h; obtain ⟨u, h, _⟩ := h; rw [VR_rf] at h; obtain ⟨r, hr, _⟩ := h; exact ⟨r, hr⟩
  | .pt m p o, v, h, n, hn => by simp [V.refs] at hn; subst hn; rw [VR_pt] at h; obtain ⟨r, b, o', hr, _⟩ := h; exact ⟨r, hr⟩
  | .fp cs o, v, h, n, hn => by simp [V.refs] at hn
  | .fn f cs, v, h, n, hn => by rw [VR_fn] at h; obtain ⟨arr, rfl, h⟩ := h; exact refss_live cs _ h n hn
  | .tu cs, v, h, n, hn => by rw [VR_tu] at h; obtain ⟨arr, rfl, h⟩ := h; exact refss_live cs _ h n hn
  | .dead, v, h, n, hn => by simp [V.refs] at hn
theorem refss_live {w Z σ rv} : ∀ (xs : List V) (vs : List Value), VRs w Z σ rv xs vs → ∀ n ∈ V.refss xs, ∃ r, σ n = some r
  | [], vs, h, n, hn => by simp [V.refss] at hn
  | x :: xs, vs, h, n, hn => by
    rw [VRs_cons] at h
    obtain ⟨v, vs', rfl, h1, h2⟩ := h
    simp only [V.refss, List.mem_append] at hn
    exact hn.elim (refs_live x v h1 n) (refss_live xs vs' h2 n)
end
theorem names_ge {base} : ∀ (ds : List D) (i : Nat), ∀ n ∈ (intros base i ds).2.map (·.1), base ≤ n := by
  have c1 : ∀ (name : Nat) (c : PV), ∀ n ∈ (introC name c).2.map (·.1), name ≤ n := by
    intro name c n hn; unfold introC at hn; split at hn <;> simp at hn; omega
  have cs1 : ∀ (cs : List PV) (base j : Nat), ∀ n ∈ (introCs base j cs).2.map (·.1), base ≤ n := by
    intro cs
    induction cs with
    | nil => intro base j n hn; simp [introCs] at hn
    | cons c cs ih =>
      intro base j n hn
      simp only [introCs, List.map_append, List.mem_append] at hn
      exact hn.elim (fun h => by have := c1 _ c n h; omega) (ih base (j + 1) n)
  have bs1 : ∀ (cs : List (List PV)) (base j : Nat), ∀ n ∈ (introBs base j cs).2.map (·.1), base ≤ n := by
    intro cs
    induction cs with
    | nil => intro base j n hn; simp [introBs] at hn
    | cons c cs ih =>
      intro base j n hn
      simp only [introBs, List.map_cons, List.mem_cons] at hn
      exact hn.elim (fun h => by omega) (ih base (j + 1) n)
  intro ds
  induction ds with
  | nil => intro i n hn; simp [intros] at hn
  | cons d ds ih =>
    intro i n hn
    simp only [intros, List.map_append, List.mem_append] at hn
    refine hn.elim (fun h => ?_) (ih (i + 1) n)
    cases d with
    | v c => have := c1 _ c n h; omega
    | g cs => have := cs1 cs _ 1 n h; omega
    | p cs => simp [intro1] at h; omega
    | f fn css => have := bs1 css _ 1 n h; omega
    | x => simp [intro1] at h
theorem news_env (st : St) : ∀ rs : List (Nat × Root), (st.news rs).env = st.env
  | [] => rfl
  | (n, r) :: rs => by simp only [St.news]; rw [news_env _ rs]; rfl

mutual
def V.top : V → Bool
  | .g cs => V.tops cs
  | .rf _ p => p.isEmpty
  | .pt _ p o => p.isEmpty && o == 0
  | .fn _ cs => V.tops cs
  | .tu _ => false
  | _ => true
def V.tops : List V → Bool
  | [] => true
  | x :: xs => x.top && V.tops xs
end
theorem introC_top {name c} : (introC name c).1.top = true := by unfold introC; split <;> rfl
theorem introCs_top {base} : ∀ (cs : List PV) (j : Nat), V.tops (introCs base j cs).1 = true
  | [], j => rfl
  | c :: cs, j => by simp only [introCs, V.tops, introC_top, introCs_top cs (j + 1), Bool.and_self]
theorem introBs_top {base} : ∀ (cs : List (List PV)) (j : Nat), V.tops (introBs base j cs).1 = true
  | [], j => rfl
  | c :: cs, j => by simp only [introBs, V.tops, V.top, introBs_top cs (j + 1)]; rfl
theorem intro1_top {base d} : (intro1 base d).1.top = true := by
  cases d with
  | v c => exact introC_top
  | g cs => exact introCs_top cs 1
  | p cs => rfl
  | f fn css => exact introBs_top css 1
  | x => rfl
theorem intros_top {base} : ∀ (ds : List D) (i j : Nat) (x : V), (intros base i ds).1[j]? = some x → x.top = true
  | [], i, j, x, h => by simp [intros] at h
  | d :: ds, i, j, x, h => by
    simp only [intros] at h
    cases j with
    | zero => simp at h; subst h; exact intro1_top
    | succ j => simp at h; exact intros_top ds (i + 1) j x h

theorem top_later {w w' : World} {Z : Nat → Prop} {st : St} {σ rv rv'} (hz : Agr w w' Z) (hrv : ∀ n r, st.σ n = some r → (∃ r0, σ n = some r0) → rv' n = rv n) {l0 : Lt} (hnr : ∀ n, (n, none) ∉ l0) :
    ∀ (x : V) (v : Value) (d : D) (l : Lt), x.top = true → VR w Z σ rv x v → Lend st x d l → (∀ s ∈ l, s ∈ l0) → VR w' Z st.σ rv' x v := by
  have cell : ∀ (x : V) (v : Value) (c : PV) (l : Lt), x.top = true → VR w Z σ rv x v → LendC st x c l → (∀ s ∈ l, s ∈ l0) → VR w' Z st.σ rv' x v := by
    intro x v c l ht hx hl hm
    cases x with
    | c t => rw [VR_c] at *; exact RV_congr hz (fun _ h => h) t v _ _ (fun _ h => h.elim) (fun _ h => h) hx
    | nl => rw [VR_nl] at *; exact hx
    | rf n p =>
      simp only [V.top, List.isEmpty_iff] at ht; subst ht
      obtain ⟨r, m, hσ, hg, hh⟩ := hl
      rcases hh with ⟨_, rfl⟩ | ⟨_, how, _, rfl⟩
      · exact absurd (hm _ (by simp)) (hnr n)
      · rw [VR_rf] at *
        obtain ⟨r0, hr0, hat, f, k, es, hg0⟩ := hx
        have hk0 : ∃ t, r0 = .sv t := by
          cases r0 with
          | bx cs => simp [Root.node, PV.get] at hg0
          | sv t => exact ⟨t, rfl⟩
        obtain ⟨t0, rfl⟩ := hk0
        have hk : ∃ t, r = .sv t := by
          cases r with
          | bx cs => simp only [Root.node, PV.get, Option.some.injEq] at hg; subst hg; simp [PV.isOwn] at how
          | sv t => exact ⟨t, rfl⟩
        obtain ⟨t, rfl⟩ := hk
        obtain ⟨k', es', rfl⟩ := own_sl how
        simp only [rAt, Option.some.injEq] at hat
        exact ⟨.sv t, hσ, by simp only [rAt]; rw [hrv n _ hσ ⟨_, hr0⟩, hat], _, _, _, hg⟩
    | rn n p s =>
      obtain ⟨r, m, lo, hi, k, es, _, _, _, _, _, rfl⟩ := hl
      exact absurd (hm _ (by simp)) (hnr n)
    | _ => simp [LendC] at hl
  have cells : ∀ (xs : List V) (vs : List Value) (cs : List PV) (l : Lt), V.tops xs = true → VRs w Z σ rv xs vs → LendCs st xs cs l → (∀ s ∈ l, s ∈ l0) → VRs w' Z st.σ rv' xs vs := by
    intro xs
    induction xs with
    | nil => intro vs cs l ht hx hl hm; rw [VRs_nil] at *; exact hx
    | cons x xs ih =>
      intro vs cs l ht hx hl hm
      cases cs with
      | nil => simp [LendCs] at hl
      | cons c cs =>
        obtain ⟨l1, l2, rfl, _, h1, h2⟩ := hl
        simp only [V.tops, Bool.and_eq_true] at ht
        rw [VRs_cons] at *
        obtain ⟨v, vs', rfl, k1, k2⟩ := hx
        exact ⟨v, vs', rfl, cell x v c l1 ht.1 k1 h1 (fun s hs => hm s (List.mem_append.2 (.inl hs))), ih vs' cs l2 ht.2 k2 h2 (fun s hs => hm s (List.mem_append.2 (.inr hs)))⟩
  have boxes : ∀ (xs : List V) (vs : List Value) (css : List (List PV)) (l : Lt), VRs w Z σ rv xs vs → LendBs st xs css l → VRs w' Z st.σ rv' xs vs := by
    intro xs
    induction xs with
    | nil => intro vs css l hx hl; rw [VRs_nil] at *; exact hx
    | cons x xs ih =>
      intro vs css l hx hl
      cases css with
      | nil => simp [LendBs] at hl
      | cons cs css =>
        obtain ⟨n, l2, rfl, hσ, rfl, h2⟩ := hl
        rw [VRs_cons] at *
        obtain ⟨v, vs', rfl, k1, k2⟩ := hx
        refine ⟨v, vs', rfl, ?_, ih vs' css l2 k2 h2⟩
        rw [VR_pt] at *
        obtain ⟨r0, b, o', hr0, hl, rfl⟩ := k1
        refine ⟨.bx cs, b, o', hσ, ?_, rfl⟩
        rw [hrv n _ hσ ⟨_, hr0⟩]
        cases r0 with
        | bx cs0 =>
          cases hv : rv n with
          | pointer ad =>
            rw [hv] at hl
            cases ad with
            | none => simp [rLoc] at hl
            | some ad => simpa [rLoc, locate] using hl
          | _ => rw [hv] at hl; simp [rLoc] at hl
        | sv t => exact absurd (rLoc_ne hl) (by simp)
  intro x v d l ht hx hl hm
  cases d with
  | v c => exact cell x v c l ht hx (by cases x <;> exact hl) hm
  | g cs =>
    cases x with
    | g xs =>
      rw [VR_g] at *
      obtain ⟨arr, rfl, hx⟩ := hx
      exact ⟨arr, rfl, cells xs _ cs l ht hx hl hm⟩
    | _ => simp [Lend] at hl
  | p cs =>
    have := boxes [x] [v] [cs] l (by rw [VRs_cons]; exact ⟨v, [], rfl, hx, by rw [VRs_nil]⟩) (by cases x <;> exact hl)
    rw [VRs_cons] at this
    obtain ⟨v', vs', e, h1, _⟩ := this
    simp only [List.cons.injEq] at e
    rw [e.1]; exact h1
  | f f' css =>
    cases x with
    | fn f xs =>
      rw [VR_fn] at *
      obtain ⟨arr, rfl, hx⟩ := hx
      exact ⟨arr, rfl, boxes xs _ css l hx hl.2⟩
    | _ => simp [Lend] at hl
  | x =>
    cases x with
    | dead => rw [VR_dead]; trivial
    | _ => simp [Lend] at hl

theorem ACallX.of_body (hT : TOK P T) {f : Nat} {fn : Func} {code : Code} {ins : List D} {α : Type} {p : α → Prop} {outs res : α → List D} (hfn : P.funcs[f]? = some fn) (hb : fn.body = some code) (hN : fn.ntmps = N) (hN1 : ins.length ≤ N) (hN2 : N ≤ 10000)
    (hnd : ((intros 100000000 0 ins).2.map (·.1)).Nodup)
    (h : AW P N code (st0 ins) (fun e st => (e = .normal ∨ e = .ret) ∧ ∃ x, p x ∧ Finish T fn.results.toList ins (outs x) (res x) st)) : ACallX P f ins p outs res := by
  intro w Z S vals hG hin hlt hdis
  have hlen : vals.length = ins.length := by
    have : ∀ (ds : List D) (vs : List Value) (S : Nat → Prop), DRs w Z ds vs S → vs.length = ds.length := by
      intro ds
      induction ds with
      | nil => intro vs S h; simp [DRs] at h; simp [h]
      | cons d ds ih => intro vs S h; obtain ⟨v, vs', S1, S2, rfl, _, _, h2⟩ := h; simp [ih vs' S2 h2]
    exact this ins vals S hin
  -- the state at the begin
  have hR0 : Rel0 { w0 := w, X := Z, Y := fun b => b < w.heap.size ∧ ¬ S b, N := N, rv0 := fun _ => none, S0 := S } (fun _ _ => False) (fun _ => undef) { env := fun _ => .dead, σ := fun _ => none } { tmps := vals.toArray ++ Array.replicate (fn.ntmps - vals.toArray.size) undef, defers := [] } w := by
    refine ⟨rfl, TD.refl, rfl, Nat.le_refl _, fun _ _ => rfl, fun b hb => ⟨hlt b (.inl hb), fun hs => hdis b hs hb⟩, fun b hb => hb.1, ?_, rfl, by simp, by simp, by simp, by simp, fun t => by rw [VR_dead]; trivial⟩
    simp; omega
  obtain ⟨S', rv', hR1, hxs, hg⟩ := intros_ok (base := 100000000) ins 0 vals S hR0 hin ⟨hnd, fun n _ => ⟨rfl, rfl⟩⟩ ⟨fun b hb => ⟨hlt b (.inr hb), fun hy => hy.2 hb, .inl hb⟩, by simp⟩
  have hR2 : Rel0 { w0 := w, X := Z, Y := fun b => b < w.heap.size ∧ ¬ S b, N := N, rv0 := fun n => if n ∈ (intros 100000000 0 ins).2.map (·.1) then some (rv' n) else none, S0 := S } S' rv' (st0 ins) { tmps := vals.toArray ++ Array.replicate (fn.ntmps - vals.toArray.size) undef, defers := [] } w := by
    have hσ : (st0 ins).σ = (({ env := fun _ => .dead, σ := fun _ => none } : St).news (intros 100000000 0 ins).2).σ := by
      have : ∀ (rs : List (Nat × Root)) (st st' : St), st.σ = st'.σ → (st.news rs).σ = (st'.news rs).σ := by
        intro rs
        induction rs with
        | nil => intro st st' h; exact h
        | cons q rs ih => intro st st' h; obtain ⟨n, r⟩ := q; simp only [St.news]; exact ih _ _ (by simp [St.new, h])
      exact this _ _ _ rfl
    refine ⟨hR1.os, hR1.tape, hR1.output, hR1.size, hR1.agr, hR1.xy, hR1.xlt, hR1.n, hR1.defers, by rw [hσ]; exact hR1.rr, by rw [hσ]; exact hR1.sout, by rw [hσ]; exact hR1.sdis, ?_, ?_⟩
    · intro n r v hr hv
      simp only at hv
      split at hv
      · cases hv; rfl
      · cases hv
    · intro t
      have henv : (st0 ins).env t = ((intros 100000000 0 ins).1[t]?).getD .dead := by simp only [st0]; rw [news_env]
      rw [henv, hσ]
      cases e : (intros 100000000 0 ins).1[t]? with
      | none => simp only [Option.getD_none]; rw [VR_dead]; trivial
      | some x =>
        obtain ⟨v, hv, hr⟩ := VRs_get _ _ t x hxs e
        have hlt' : t < vals.length := by rcases Nat.lt_or_ge t vals.length with h | h; exact h; simp [List.getElem?_eq_none h] at hv
        simp only [Option.getD_some]
        have : (vals.toArray ++ Array.replicate (fn.ntmps - vals.toArray.size) undef).getD t undef = v := by
          simp only [Array.getD_eq_getD_getElem?, Array.getElem?_append, List.size_toArray, hlt', if_true, List.getElem?_toArray, hv, Option.getD_some]
        rw [this]; exact hr
  have hσ0 : ∀ n ∈ (intros 100000000 0 ins).2.map (·.1), 100000000 ≤ n := fun n hn => names_ge ins 0 n hn
  have hfr : FrOK P N { w0 := w, X := Z, Y := fun b => b < w.heap.size ∧ ¬ S b, N := N, rv0 := fun n => if n ∈ (intros 100000000 0 ins).2.map (·.1) then some (rv' n) else none, S0 := S } := by
    refine ⟨hG, rfl, hN2, fun n v hv => ?_⟩
    simp only at hv
    split at hv
    · rename_i hn; exact hσ0 n hn
    · cases hv
  refine calls_of_wp hfn hb ?_
  refine wp_mono (h _ _ _ hfr ⟨S', rv', hR2⟩) ?_
  rintro e a' w' ⟨st', ⟨he, ox, hpx, ⟨xs, rxs, l, hxl, hxx, hrv, hl, hlnd, hnr, hol⟩⟩, S'', rv'', hR⟩
  -- the arguments' values stand
  obtain ⟨rvs, hrun, hrvs⟩ := resVs_ok (P := P) hT hR fn.results.toList rxs hrv
  have hzw : Agr w w' Z := fun b hb => hR.agr b (hR.xy b hb)
  have hpar : VRs w' Z st'.σ rv'' xs vals := by
    refine VRs_mk _ _ (by rw [hxl, hlen]) ?_
    intro i x v hi hv
    rcases hxx i x hi with rfl | hx
    · rw [VR_dead]; trivial
    · obtain ⟨v', hv', hr⟩ := VRs_get _ _ i x hxs hx
      rw [hv] at hv'; cases hv'
      -- what the list tells of this argument
      have hld : ∃ d l', Lend st' x d l' ∧ (∀ s ∈ l', s ∈ l) := by
        have : ∀ (xs : List V) (ds : List D) (l : Lt) (i : Nat) (x : V), Lends st' xs ds l → xs[i]? = some x → ∃ d l', Lend st' x d l' ∧ ∀ s ∈ l', s ∈ l := by
          intro xs
          induction xs with
          | nil => intro ds l i x h hi; simp at hi
          | cons y xs ih =>
            intro ds l i x h hi
            cases ds with
            | nil => simp [Lends] at h
            | cons d ds =>
              obtain ⟨l1, l2, rfl, h1, h2⟩ := h
              cases i with
              | zero => simp at hi; subst hi; exact ⟨d, l1, h1, fun s hs => List.mem_append.2 (.inl hs)⟩
              | succ i => simp at hi; obtain ⟨d', l', h3, h4⟩ := ih ds l2 i x h2 hi; exact ⟨d', l', h3, fun s hs => List.mem_append.2 (.inr (h4 s hs))⟩
        exact this _ _ _ i x hl (by rw [List.getElem?_append_left (by rcases Nat.lt_or_ge i xs.length with h | h; exact h; simp [List.getElem?_eq_none h] at hi)]; exact hi)
      obtain ⟨d, l', hld, hsub⟩ := hld
      refine top_later (σ := (({ env := fun _ => .dead, σ := fun _ => none } : St).news (intros 100000000 0 ins).2).σ) (rv := rv') hzw ?_ hnr x v d l' (intros_top ins 0 i x hx) hr hld hsub
      intro n r hn ⟨r0, hr0⟩
      have hmem : n ∈ (intros 100000000 0 ins).2.map (·.1) := by
        refine Classical.byContradiction fun hc => ?_
        rw [news_σ _ _ n hc] at hr0; cases hr0
      refine hR.rv0 n r (rv' n) hn ?_
      simp only [hmem, if_true]
  have hall : VRs w' Z st'.σ rv'' (xs ++ rxs) (vals ++ rvs) := VRs_append hpar hrvs
  obtain ⟨S1, S2, u, hL⟩ := lent_all hR hl hlnd
  have hD := lend_ins hR hL (Zc := Z) (fun b h => h) (fun n b hn _ => absurd hn (hnr n)) _ _ _ _ hall hl (fun s h => h) hlnd
  obtain ⟨A, B, hsep, hD1, hD2⟩ := DRs_append (by rw [hlen, hol]) hD
  have hsub : ∀ b, (∃ n ∈ lentOf l, S1 n b) → b < w'.heap.size ∧ (S b ∨ w.heap.size ≤ b) := by
    rintro b ⟨n, hn, hb⟩
    obtain ⟨⟨m, q⟩, hs, e⟩ := List.mem_filterMap.1 hn
    cases q with
    | none => simp at e
    | some p =>
      simp at e; subst e
      obtain ⟨r, c0, hk⟩ := hL.all m p hs
      obtain ⟨k1, k2, k3⟩ := hR.sout m r b hk.σ (hk.sep.1 b hb)
      exact ⟨k1, k3⟩
  have hkeep : ∀ b, b < w.heap.size → ¬ S b → w'.heap[b]? = w.heap[b]? := fun b hb hs => hR.agr b ⟨hb, hs⟩
  have hfin : a'.defers = [] ∧ ∃ v, (Go.results fn a'.tmps).run P w' = .ok v w' ∧ ∃ x, p x ∧ ∃ rvs S' Sr, (Ending.returned v) = .returned (resOf rvs) ∧ w'.os = w.os ∧ TD w w' ∧ w'.output = w.output ∧ w.heap.size ≤ w'.heap.size ∧
      (∀ b, b < w.heap.size → ¬ S b → w'.heap[b]? = w.heap[b]?) ∧ (∀ b, S' b ∨ Sr b → S b ∨ (w.heap.size ≤ b ∧ b < w'.heap.size)) ∧ (∀ b, S' b → Sr b → False) ∧
      DRs w' Z (outs x) vals S' ∧ DRs w' Z (res x) rvs Sr := by
    refine ⟨hR.defers, resOf rvs, ?_, ox, hpx, rvs, A, B, rfl, hR.os, hR.tape, hR.output, hR.size, hkeep, ?_, hsep.2.2, hD1, hD2⟩
    · rw [results_eq]
      simp only [Sem.run_bind]
      rw [Array.mapM_eq_mapM_toList]
      simp only [Sem.run_map, hrun, Result.andThen_ok, Sem.run_pure, resOf, List.size_toArray]
      by_cases h1 : rvs.length = 1
      · simp [h1]
      · simp [h1]
    · intro b hb
      have : ∃ n ∈ lentOf l, S1 n b := hb.elim (hsep.1 b) (hsep.2.1 b)
      obtain ⟨k1, k2⟩ := hsub b this
      exact k2.imp id (fun h => ⟨h, k1⟩)
  rcases he with rfl | rfl
  · exact hfin
  · exact hfin
theorem ACall.of_body (hT : TOK P T) {f : Nat} {fn : Func} {code : Code} {ins outs res : List D} (hfn : P.funcs[f]? = some fn) (hb : fn.body = some code) (hN : fn.ntmps = N) (hN1 : ins.length ≤ N) (hN2 : N ≤ 10000)
    (hnd : ((intros 100000000 0 ins).2.map (·.1)).Nodup)
    (h : AW P N code (st0 ins) (fun e st => (e = .normal ∨ e = .ret) ∧ Finish T fn.results.toList ins outs res st)) : ACall P f ins outs res :=
  (ACallX.of_body hT hfn hb hN hN1 hN2 hnd (h.mono fun e st h => ⟨h.1, (), trivial, h.2⟩)).one
end Go.Eng

set_option linter.unusedSimpArgs false
set_option linter.unusedVariables false
namespace Go.Eng
open Go.RowKit
variable {P : Program} {T : Nat → Option TI} {N : Nat}

def veq : Value → Value → Bool
  | .bool a, .bool b => a == b
  | .int k a, .int k' b => k == k' && a == b
  | .string s, .string t => s.data == t.data
  | .pointer none, .pointer none => true
  | .slice none 0 0, .slice none 0 0 => true
  | .nilFunc, .nilFunc => true
  | .nilIface, .nilIface => true
  | _, _ => false
theorem veq_ok {a b : Value} (h : veq a b = true) : a = b := by
  unfold veq at h
  split at h <;> simp_all
  rename_i s t
  cases s; cases t; simp_all
def veqs : List Value → List Value → Bool
  | [], [] => true
  | a :: ars, b :: bs => veq a b && veqs ars bs
  | _, _ => false
theorem veqs_ok : ∀ {ars bs : List Value}, veqs ars bs = true → ars = bs
  | [], [], _ => rfl
  | a :: ars, b :: bs, h => by simp only [veqs, Bool.and_eq_true] at h; rw [veq_ok h.1, veqs_ok h.2]
  | [], _ :: _, h => by simp [veqs] at h
  | _ :: _, [], h => by simp [veqs] at h
def isAggD (d : TypeDesc) : Bool := match d with | .struct _ | .array _ _ => true | _ => false
def chkKD (P : Program) (d : TypeDesc) : TK → Bool
  | .int k => match d with | .int k' => k == k' | _ => false
  | .bool => match d with | .bool => true | _ => false
  | .str => match d with | .string => true | _ => false
  | .sl e k b => match d with | .slice e' => e == e' && (match P.info? e with | some ie => ie.size == k && ie.bytes == b | none => false) | _ => false
  | .st fs => match d with
      | .struct fields => decide (fields.toList.mapM (fun f => (P.info? f.type).map fun i => (f.offset, i.size)) = some (fs.map fun q => (q.1, q.2.1))) &&
          (fields.toList.zip fs).all (fun q => match P.underlying q.1.type with | some fd => isAggD fd == q.2.2.2 | none => false)
      | _ => false
  | .oth => true
def chkEq (P : Program) (t : Nat) (ks : List EK) : Bool :=
  ks.isEmpty || ((match P.underlying t with | some (.struct _) => true | _ => false) && !P.stoodInHeld t && !P.eqGuardType P.depth t && (P.fieldsOf t).size == ks.length &&
    (((P.fieldsOf t).toList.zip ks).zipIdx.all fun q => q.1.1.name != "_" && q.1.1.offset == q.2 && (match P.underlying q.1.1.type with | some d => EKok q.1.2 d | none => false)))
theorem chkEq_ok {P : Program} {t : Nat} {ks : List EK} (h : chkEq P t ks = true) (hne : ks ≠ []) : EqT P t ks := by
  simp only [chkEq, Bool.or_eq_true, List.isEmpty_iff, hne, false_or, Bool.and_eq_true, Bool.not_eq_true', beq_iff_eq] at h
  obtain ⟨⟨⟨⟨h1, h2⟩, h3⟩, h4⟩, h5⟩ := h
  have hu : P.underlying t = some (.struct (P.fieldsOf t)) := by
    split at h1
    · rename_i fs hfs; simp [Program.fieldsOf, hfs]
    · cases h1
  refine ⟨hu, h2, h3, h4, fun j f k hf hk => ?_⟩
  have hz : ((P.fieldsOf t).toList.zip ks).zipIdx[j]? = some ((f, k), j) := by
    rw [List.getElem?_zipIdx]
    have : ((P.fieldsOf t).toList.zip ks)[j]? = some (f, k) := by rw [List.getElem?_zip_eq_some]; exact ⟨by simpa using hf, hk⟩
    simp [this]
  have := List.all_eq_true.1 h5 _ (List.mem_of_getElem? hz)
  simp only [Bool.and_eq_true, bne_iff_ne, ne_eq, beq_iff_eq] at this
  obtain ⟨⟨g1, g2⟩, g3⟩ := this
  refine ⟨g1, g2, ?_⟩
  split at g3
  · rename_i d hd; exact ⟨d, hd, g3⟩
  · cases g3
def chkTI (P : Program) (q : Nat × TI) : Bool :=
  match P.info? q.1, P.underlying q.1 with
  | some inf, some d => q.2.zero.length == q.2.size && inf.size == q.2.size && (match inf.zero with
      | some z => veqs z.cells.toList (q.2.zero.map zval) && q.2.zero.all zok && (match z with | .agg _ => q.2.agg | _ => !q.2.agg)
      | none => false) && isAggD d == q.2.agg && chkKD P d q.2.kd && chkEq P q.1 q.2.eq
  | _, _ => false
theorem mapM_some_get {α β : Type} {f : α → Option β} : ∀ {l : List α} {r : List β}, l.mapM f = some r → ∀ (i : Nat) (y : β), r[i]? = some y → ∃ x, l[i]? = some x ∧ f x = some y
  | [], r, h, i, y, hy => by simp at h; subst h; simp at hy
  | x :: l, r, h, i, y, hy => by
    simp only [List.mapM_cons, Option.bind_eq_bind, Option.pure_def, Option.bind_eq_some_iff, Option.some.injEq] at h
    obtain ⟨b, hb, bs, hbs, rfl⟩ := h
    cases i with
    | zero => simp at hy; subst hy; exact ⟨x, rfl, hb⟩
    | succ i => simp at hy; obtain ⟨x', h1, h2⟩ := mapM_some_get hbs i y hy; exact ⟨x', by simpa using h1, h2⟩
theorem chkKD_ok {d : TypeDesc} {k : TK} (h : chkKD P d k = true) : KDok P d k := by
  cases k with
  | int k => simp only [chkKD] at h; split at h <;> simp_all [KDok]
  | bool => simp only [chkKD] at h; split at h <;> simp_all [KDok]
  | str => simp only [chkKD] at h; split at h <;> simp_all [KDok]
  | sl e k b =>
    simp only [chkKD] at h
    split at h
    · rename_i e'
      simp only [Bool.and_eq_true, beq_iff_eq] at h
      obtain ⟨rfl, h⟩ := h
      split at h
      · rename_i ie hie; simp only [Bool.and_eq_true, beq_iff_eq] at h; exact ⟨rfl, ie, hie, h.1, h.2⟩
      · cases h
    · cases h
  | st fs =>
    simp only [chkKD] at h
    split at h
    · rename_i fields
      simp only [Bool.and_eq_true, decide_eq_true_eq] at h
      obtain ⟨h1, h2⟩ := h
      refine ⟨fields, rfl, h1, fun i q hq => ?_⟩
      obtain ⟨f, hf, hfi⟩ := mapM_some_get h1 i (q.1, q.2.1) (by simp [hq])
      simp only [Option.map_eq_some_iff, Prod.mk.injEq] at hfi
      obtain ⟨fi, hfi, ho, hs⟩ := hfi
      refine ⟨f, by simpa using hf, ho, ⟨fi, hfi, hs⟩, ?_⟩
      have hz : (f, q) ∈ fields.toList.zip fs := by
        have : (fields.toList.zip fs)[i]? = some (f, q) := by rw [List.getElem?_zip_eq_some]; exact ⟨hf, hq⟩
        exact List.mem_of_getElem? this
      have := List.all_eq_true.1 h2 _ hz
      simp only at this
      split at this
      · rename_i fd hfd; exact ⟨fd, hfd, beq_iff_eq.1 this⟩
      · cases this
    · cases h
  | oth => trivial
theorem chkTI_ok {q : Nat × TI} (h : chkTI P q = true) : TIok P q.1 q.2 := by
  unfold chkTI at h
  split at h
  · rename_i inf d hinf hd
    simp only [Bool.and_eq_true, beq_iff_eq] at h
    obtain ⟨⟨⟨⟨⟨h1, h2⟩, h3⟩, h4⟩, h5⟩, h6⟩ := h
    refine ⟨h1, ?_, ⟨d, hd, h4, chkKD_ok h5⟩, chkEq_ok h6⟩
    split at h3
    · rename_i z hz
      simp only [Bool.and_eq_true] at h3
      obtain ⟨⟨k1, k2⟩, k3⟩ := h3
      refine ⟨inf, z, hinf, h2, hz, veqs_ok k1, List.all_eq_true.1 k2, ?_, ?_⟩
      · intro ha
        split at k3
        · exact ⟨_, rfl⟩
        · simp [ha] at k3
      · intro ha
        split at k3
        · rw [ha] at k3; cases k3
        · rename_i hne
          cases z <;> first | rfl | exact absurd rfl (hne _)
    · cases h3
  · cases h

/-! States written out. -/
def look (l : List (Nat × V)) (t : Nat) : V :=
  match l with
  | [] => .dead
  | (n, x) :: l => if n = t then x else look l t
def mk (e : List (Nat × V)) (r : List (Nat × Root)) : St := { env := look e, σ := lookR r }
@[simp] theorem mk_env (e r t) : (mk e r).env t = look e t := rfl
@[simp] theorem mk_σ (e r n) : (mk e r).σ n = lookR r n := rfl
@[simp] theorem look_nil (t) : look [] t = .dead := rfl
@[simp] theorem look_cons (n x l t) : look ((n, x) :: l) t = if n = t then x else look l t := rfl
@[simp] theorem lookR_nil (t) : lookR [] t = none := rfl
@[simp] theorem lookR_cons (n x l t) : lookR ((n, x) :: l) t = if n = t then some x else lookR l t := rfl
def ins {α : Type} (d : Nat) (x : α) : List (Nat × α) → List (Nat × α)
  | [] => [(d, x)]
  | (n, y) :: l => if d < n then (d, x) :: (n, y) :: l else if d = n then (d, x) :: l else (n, y) :: ins d x l
@[simp] theorem ins_nil {α : Type} (d) (x : α) : ins d x [] = [(d, x)] := rfl
@[simp] theorem ins_cons {α : Type} (d n) (x y : α) (l) : ins d x ((n, y) :: l) = if d < n then (d, x) :: (n, y) :: l else if d = n then (d, x) :: l else (n, y) :: ins d x l := rfl
theorem look_ins (d x) : ∀ (l : List (Nat × V)) (t : Nat), look (ins d x l) t = if t = d then x else look l t
  | [], t => by by_cases h : d = t <;> simp [h, eq_comm]
  | (n, y) :: l, t => by
    simp only [ins_cons]
    split
    · simp only [look_cons]
      by_cases h : d = t
      · simp [h]
      · rw [if_neg h, if_neg (fun e : t = d => h e.symm)]
    · split
      · rename_i h1 h2; subst h2
        simp only [look_cons]
        by_cases h : d = t
        · simp [h]
        · rw [if_neg h, if_neg (fun e => h e.symm), if_neg h]
      · rename_i h1 h2
        simp only [look_cons, look_ins d x l t]
        by_cases h : n = t
        · subst h; rw [if_pos rfl, if_pos rfl, if_neg (fun e => h2 e.symm)]
        · rw [if_neg h, if_neg h]
theorem lookR_ins (d x) : ∀ (l : List (Nat × Root)) (t : Nat), lookR (ins d x l) t = if t = d then some x else lookR l t
  | [], t => by by_cases h : d = t <;> simp [h, eq_comm]
  | (n, y) :: l, t => by
    simp only [ins_cons]
    split
    · simp only [lookR_cons]
      by_cases h : d = t
      · simp [h]
      · rw [if_neg h, if_neg (fun e : t = d => h e.symm)]
    · split
      · rename_i h1 h2; subst h2
        simp only [lookR_cons]
        by_cases h : d = t
        · simp [h]
        · rw [if_neg h, if_neg (fun e => h e.symm), if_neg h]
      · rename_i h1 h2
        simp only [lookR_cons, lookR_ins d x l t]
        by_cases h : n = t
        · subst h; rw [if_pos rfl, if_pos rfl, if_neg (fun e => h2 e.symm)]
        · rw [if_neg h, if_neg h]
@[simp] theorem mk_put (e r d x) : (mk e r).put (some d) x = mk (ins d x e) r := by
  simp only [St.put, mk]; congr; funext t; rw [look_ins]
@[simp] theorem mk_put_none (e r x) : (mk e r).put none x = mk e r := rfl
@[simp] theorem mk_new (e r n x) : (mk e r).new n x = mk e (ins n x r) := by
  simp only [St.new, mk]; congr; funext t; rw [lookR_ins]
def del {α : Type} (ms : List Nat) (l : List (Nat × α)) : List (Nat × α) := l.filter fun q => !ms.contains q.1
theorem lookR_del (ms : List Nat) : ∀ (l : List (Nat × Root)) (t : Nat), lookR (del ms l) t = if t ∈ ms then none else lookR l t
  | [], t => by simp [del]
  | (n, y) :: l, t => by
    have ih := lookR_del ms l t
    simp only [del, List.contains_eq_mem] at ih ⊢
    simp only [List.filter_cons]
    by_cases hn : n ∈ ms
    · simp only [hn, decide_true, Bool.not_true, Bool.false_eq_true, if_false, ih, lookR_cons]
      by_cases h : n = t
      · subst h; simp [hn]
      · simp [h]
    · simp only [hn, decide_false, Bool.not_false, if_true, lookR_cons, ih]
      by_cases h : n = t
      · subst h; simp [hn]
      · simp [h]
theorem look_map (f : V → V) (hf : f .dead = .dead) : ∀ (l : List (Nat × V)) (t : Nat), look (l.map fun q => (q.1, f q.2)) t = f (look l t)
  | [], t => by simp [hf]
  | (n, y) :: l, t => by simp only [List.map_cons, look_cons, look_map f hf l t]; split <;> rfl
@[simp] theorem mk_move (e r ms) : (mk e r).move ms = mk (e.map fun q => (q.1, q.2.ren (kill ms) (kill ms))) (del ms r) := by
  simp only [St.move, mk]
  congr
  · funext t; rw [look_map _ rfl]
  · funext t; rw [lookR_del]
@[simp] theorem mk_drop1 (e r n) : (mk e r).drop1 n = if lookR r n = none then mk e r else (mk e r).move [n] := by
  unfold St.drop1
  by_cases h : lookR r n = none
  · rw [if_pos h, if_pos (by simpa using h)]
  · rw [if_neg h, if_neg (by simpa using h)]
@[simp] theorem mk_move_nil (e r) : (mk e r).move [] = mk e r := St.move_nil _
@[simp] theorem mk_upd (e r n x ms qs) : (mk e r).upd n x ms qs = mk (e.map fun q => (q.1, q.2.ren (killP n ms qs) (killQ n ms qs))) (ins n x (del ms r)) := by
  simp only [St.upd, mk]
  congr
  · funext t; rw [look_map _ rfl]
  · funext t; rw [lookR_ins, lookR_del]
@[simp] theorem mk_upd_nil (e r n x) : (mk e r).upd n x [] [] = mk e (ins n x r) := by rw [St.upd_nil, mk_new]
@[simp] theorem mk_news_nil (st : St) : st.news [] = st := rfl
@[simp] theorem mk_news_cons (st : St) (n r rs) : st.news ((n, r) :: rs) = (st.new n r).news rs := rfl
theorem back_nil (st : St) : st.back [] = st := by
  cases st
  simp only [St.back, upOf]
  congr
  funext t
  exact V.ren_id (fun n p => rfl) (fun n p => rfl) _
@[simp] theorem mk_back_nil (e r) : (mk e r).back [] = mk e r := back_nil _
def updR (ups : Up) (r : List (Nat × Root)) : List (Nat × Root) :=
  match r with
  | [] => []
  | (m, x) :: r => match upOf ups m with
      | some (p, c) => if (c.isXX && p.isEmpty) = true then updR ups r else (m, x.put p c) :: updR ups r
      | none => (m, x) :: updR ups r
theorem lookR_updR_none (ups : Up) : ∀ (r : List (Nat × Root)) (t : Nat), t ∉ r.map (·.1) → lookR (updR ups r) t = none
  | [], t, _ => rfl
  | (m, x) :: r, t, h => by
    simp only [List.map_cons, List.mem_cons, not_or] at h
    simp only [updR]
    split
    · split
      · exact lookR_updR_none ups r t h.2
      · simp [Ne.symm h.1, lookR_updR_none ups r t h.2]
    · simp [Ne.symm h.1, lookR_updR_none ups r t h.2]
theorem lookR_none : ∀ (r : List (Nat × Root)) (t : Nat), t ∉ r.map (·.1) → lookR r t = none
  | [], t, _ => rfl
  | (m, x) :: r, t, h => by
    simp only [List.map_cons, List.mem_cons, not_or] at h
    simp [Ne.symm h.1, lookR_none r t h.2]
theorem lookR_updR (ups : Up) : ∀ (r : List (Nat × Root)) (t : Nat), (r.map (·.1)).Nodup → lookR (updR ups r) t = match upOf ups t with
      | some (p, c) => (lookR r t).bind fun x => if (c.isXX && p.isEmpty) = true then none else some (x.put p c)
      | none => lookR r t
  | [], t, _ => by simp only [updR, lookR_nil]; split <;> rfl
  | (m, x) :: r, t, hnd => by
    simp only [List.map_cons, List.nodup_cons] at hnd
    have ih := lookR_updR ups r t hnd.2
    simp only [updR]
    by_cases h : m = t
    · subst h
      cases e : upOf ups m with
      | none => simp
      | some q =>
        obtain ⟨p, c⟩ := q
        simp only
        split
        · rename_i hx
          rw [lookR_updR_none ups r m hnd.1]
          simp
        · rename_i hx
          simp
    · cases e : upOf ups m with
      | none => simp only [lookR_cons, if_neg h]; exact ih
      | some q =>
        obtain ⟨p, c⟩ := q
        simp only [lookR_cons, if_neg h]
        split
        · exact ih
        · simp only [lookR_cons, if_neg h]; exact ih
theorem mk_back (e r ups) (h : (r.map (·.1)).Nodup) : (mk e r).back ups = mk (e.map fun q => (q.1, q.2.ren (backP ups) (backQ ups))) (updR ups r) := by
  simp only [St.back, mk]
  congr
  · funext t; rw [look_map _ rfl]
  · funext t; rw [lookR_updR ups r t h]; all_goals (cases upOf ups t <;> rfl)
end Go.Eng
