/- Plain lemmas for the rows of laws over structs: what reads as data reads as the print's kinds tell it. -/
import Derived.Test.YtodombkmnnggeaaZFnExactChangedItemsWWords
import Derived.ChangeSlices
import Derived.ChangeArms
namespace Go.Proofs.Ytodombkmnnggeaa.Opn
open Go.ChangeShapes Go.WideShapes Go.RowKit Go.Proofs.YtodombkmnnggeaaW.PrintWords

/-- Whatever reads as data of type t is a value of kind d, and is well formed. -/
structure Opens (P : Program) (t : TypeId) {α : Type} (d : Kd α) (wf : α → Prop) : Prop where
  cells : P.cellsOf t = d.sz
  go : ∀ {H : Type} {enc : TypeId × Value → H} {w : World} {base : Nat} {spare : Nat → Bool} {held : Bool} {fuel : Nat} {cs : List Value} {x : DataW H × List MemPlace},
    DataW.trod enc P w base spare held fuel t cs = some x → ∃ a, d.K w a cs ∧ wf a

theorem opens_int {P : Program} {t : TypeId} {k : IntKind} (ht : P.underlying t = some (.int k)) (hc : P.cellsOf t = 1) : Opens P t (Kd.int k) (fun n => (Lit.int k n).wf = true) where
  cells := hc
  go := fun h => by
    obtain ⟨n, rfl, _, hw⟩ := DataW.trod_int ht h
    exact ⟨n, rfl, hw⟩

theorem opens_bool {P : Program} {t : TypeId} (ht : P.underlying t = some .bool) (hc : P.cellsOf t = 1) : Opens P t Kd.bool (fun _ => True) where
  cells := hc
  go := fun h => by
    obtain ⟨b, rfl, _⟩ := DataW.trod_bool ht h
    exact ⟨b, rfl, trivial⟩

theorem opens_string {P : Program} {t : TypeId} (ht : P.underlying t = some .string) (hc : P.cellsOf t = 1) : Opens P t Kd.string (fun s => s.size ≤ maxLen) where
  cells := hc
  go := fun h => by
    obtain ⟨s, rfl, _, hs⟩ := DataW.trod_string ht h
    exact ⟨s, rfl, hs⟩

theorem add_add (a : Addr) (m j : Nat) : (a.add m).add j = a.add (m + j) := by
  unfold Addr.add
  by_cases hm : m = 0 <;> by_cases hj : j = 0 <;> simp [hm, hj] <;> omega

theorem exists_list {α β : Type} {R : α → β → Prop} : ∀ (l : List α), (∀ x, x ∈ l → ∃ y, R x y) → ∃ ys : List β, ys.length = l.length ∧ ∀ (j : Nat) (x : α), l[j]? = some x → ∃ y, ys[j]? = some y ∧ R x y
  | [], _ => ⟨[], rfl, fun j x h => by simp at h⟩
  | a :: l, h => by
    obtain ⟨y, hy⟩ := h a (by simp)
    obtain ⟨ys, hl, hr⟩ := exists_list l (fun x hx => h x (by simp [hx]))
    refine ⟨y :: ys, by simp [hl], fun j x hx => ?_⟩
    cases j with
    | zero => simp at hx; subst hx; exact ⟨y, by simp, hy⟩
    | succ j => exact hr j x (by simpa using hx)

theorem opens_slice {P : Program} {t e : TypeId} {α : Type} {d : Kd α} {wf : α → Prop} (ht : P.underlying t = some (.slice e)) (hc : P.cellsOf t = 1) (he : Opens P e d wf) :
    Opens P t (Kd.slice e d) (fun l => l.length ≤ maxLen ∧ ∀ x ∈ l, wf x) where
  cells := hc
  go := fun {H enc w base spare held fuel cs x} h => by
    rcases DataW.trod_slice ht h with ⟨rfl, _⟩ | ⟨a, len, cap, elems, rest, n, _, rfl, _, hb, hl, hm, hlen, hel, _, _⟩
    · exact ⟨[], ⟨none, 0, rfl, by simp, Kd.C_nil d w⟩, by simp [maxLen], fun x hx => by simp at hx⟩
    · have each : ∀ i, i ∈ List.range len → ∃ y : α, (fun i y => wf y ∧ ∃ c, c.length = d.sz ∧ d.K w y c ∧ ∀ j u, c[j]? = some u → w.cell? (a.add (i * d.sz + j)) = some u) i y := by
        intro i hi
        have hi' : i < len := by simpa using hi
        have h1 := hel i hi'
        rw [List.getElem?_eq_getElem (by omega : i < elems.length), Option.bind_eq_some_iff] at h1
        obtain ⟨c, hcs, hy⟩ := h1
        obtain ⟨y, hK, hw⟩ := he.go hy
        obtain ⟨_, hcl, hcell⟩ := World.cells?_some hcs
        refine ⟨y, hw, c, d.K_len hK, hK, fun j u hu => ?_⟩
        have hj : j < P.cellsOf e := by rw [← hcl]; exact (List.getElem?_eq_some_iff.1 hu).1
        have := hcell j hj
        rw [hu, add_add, he.cells] at this
        exact this
      obtain ⟨ys, hyl, hys⟩ := exists_list _ each
      have hyl' : ys.length = len := by simpa using hyl
      have pick : ∀ j p, ys[j]? = some p → wf p ∧ ∃ c, c.length = d.sz ∧ d.K w p c ∧ ∀ q u, c[q]? = some u → w.cell? (a.add (j * d.sz + q)) = some u := by
        intro j p hp
        have hj : j < ys.length := (List.getElem?_eq_some_iff.1 hp).1
        obtain ⟨y, hy, hr⟩ := hys j j (List.getElem?_range (by omega))
        rw [hp] at hy
        cases hy
        exact hr
      refine ⟨ys, ⟨some a, cap, by rw [hyl'], by omega, ⟨rfl, by rw [hyl']; unfold maxLen at hm; omega, fun _ => ⟨a, rfl, fun j p hp => (pick j p hp).2⟩⟩⟩, by rw [hyl']; omega, fun x hx => ?_⟩
      obtain ⟨j, hj⟩ := List.getElem?_of_mem hx
      exact (pick j x hj).1

/-- Fields in line, from the cell off on. -/
structure OpensL (P : Program) (fs : List Field) (off : Nat) {α : Type} (d : Kd α) (wf : α → Prop) : Prop where
  go : ∀ {H : Type} {enc : TypeId × Value → H} {w : World} {base : Nat} {spare : Nat → Bool} {held : Bool} {n : Nat} {cs : List Value}, cs.length = off + d.sz →
    (∀ (i : Nat) (f : Field), fs[i]? = some f → ∃ y, DataW.trod enc P w base spare held n f.type ((cs.drop f.offset).take (P.cellsOf f.type)) = some y) → ∃ a, d.K w a (cs.drop off) ∧ wf a

theorem opensL_one {P : Program} {f : Field} {off : Nat} {α : Type} {d : Kd α} {wf : α → Prop} (ho : f.offset = off) (h : Opens P f.type d wf) : OpensL P [f] off d wf := by
  refine ⟨fun {H enc w base spare held n cs} hl hf => ?_⟩
  obtain ⟨y, hy⟩ := hf 0 f rfl
  rw [ho, h.cells, List.take_of_length_le (by rw [List.length_drop]; omega)] at hy
  exact h.go hy

theorem opensL_cons {P : Program} {f : Field} {fs : List Field} {off : Nat} {α β : Type} {d : Kd α} {d' : Kd β} {wf : α → Prop} {wf' : β → Prop} (ho : f.offset = off) (h : Opens P f.type d wf) (hr : OpensL P fs (off + d.sz) d' wf') :
    OpensL P (f :: fs) off (Kd.pair d d') (fun x => wf x.1 ∧ wf' x.2) := by
  refine ⟨fun {H enc w base spare held n cs} hl hf => ?_⟩
  obtain ⟨y, hy⟩ := hf 0 f rfl
  rw [ho, h.cells] at hy
  obtain ⟨a, hK, hw⟩ := h.go hy
  obtain ⟨b, hK', hw'⟩ := hr.go (n := n) (cs := cs) (by rw [hl]; show off + (d.sz + d'.sz) = _; omega) (fun i g hg => hf (i + 1) g (by simpa using hg))
  refine ⟨(a, b), ⟨_, _, ?_, hK, hK'⟩, hw, hw'⟩
  rw [← List.drop_drop, List.take_append_drop]

theorem opens_struct {P : Program} {t : TypeId} {fs : Array Field} {α : Type} {d : Kd α} {wf : α → Prop} (ht : P.underlying t = some (.struct fs)) (hc : P.cellsOf t = d.sz) (h : OpensL P fs.toList 0 d wf) : Opens P t d wf where
  cells := hc
  go := fun {H enc w base spare held fuel cs x} hx => by
    obtain ⟨xs, n, _, _, hl, hxl, he⟩ := DataW.trod_struct ht hx
    have := h.go (n := n) (cs := cs) (by rw [hl, hc]; omega) (fun i f hf => by
      have hf' : fs[i]? = some f := by simpa using hf
      have hi : i < fs.size := (Array.getElem?_eq_some_iff.1 hf').1
      refine ⟨xs[i]'(by omega), ?_⟩
      rw [he i f hf', List.getElem?_eq_getElem (by omega)])
    simpa using this

theorem opens_iso {P : Program} {t : TypeId} {α β : Type} {d : Kd α} {wf : α → Prop} (f : β → α) (g : α → β) (hfg : ∀ a, f (g a) = a) (h : Opens P t d wf) : Opens P t (Kd.iso d f) (fun b => wf (f b)) where
  cells := h.cells
  go := fun hx => by
    obtain ⟨a, hK, hw⟩ := h.go hx
    exact ⟨g a, by show d.K _ (f (g a)) _; rw [hfg]; exact hK, by rw [hfg]; exact hw⟩

theorem Opens.weaken {P : Program} {t : TypeId} {α : Type} {d : Kd α} {wf wf' : α → Prop} (h : Opens P t d wf) (hw : ∀ a, wf a → wf' a) : Opens P t d wf' where
  cells := h.cells
  go := fun hx => by
    obtain ⟨a, hK, h1⟩ := h.go hx
    exact ⟨a, hK, hw a h1⟩

theorem agg_of {cs : Array Value} {l : List Value} (h : cs.toList = l) : cs = l.toArray := by rw [← h]

end Go.Proofs.Ytodombkmnnggeaa.Opn
