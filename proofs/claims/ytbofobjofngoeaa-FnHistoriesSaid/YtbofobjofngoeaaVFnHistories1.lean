-- Written by this session's texts and program for this claim. Lean checks it.
import Derived.Calls
import Derived.Orders
import Derived.Below
import Derived.Laws.Cells
import Derived.Laws.CopyRow
import Derived.Laws.Sem
import Derived.Laws.Entries
import Derived.RowKit
import Derived.Laws.Tables
import Derived.Laws.StructEq
import Derived.Laws.Slices
import Derived.Laws.BytesArg
import Derived.Great.BuildSlice
import Derived.Laws.MakeOwn
set_option autoImplicit true
set_option relaxedAutoImplicit true
namespace Go.Eng

def TD (w w' : World) : Prop := w'.tape = w.tape ∧ w.drawn ≤ w'.drawn
theorem TD.refl {w : World} : TD w w := ⟨rfl, Nat.le_refl _⟩
theorem TD.trans {w w' w0 : World} (h : TD w w') (g : TD w0 w) : TD w0 w' := ⟨h.1.trans g.1, Nat.le_trans g.2 h.2⟩

inductive PV where
  | sc (v : Value)
  | sl (fz : Bool) (k : Nat) (es : List PV)
  | ag (cs : List PV)
  | xx
  deriving Inhabited

mutual
def PV.frz : PV → PV
  | .sc v => .sc v
  | .sl _ k es => .sl true k (PV.frzs es)
  | .ag cs => .ag (PV.frzs cs)
  | .xx => .xx
def PV.frzs : List PV → List PV
  | [] => []
  | e :: es => e.frz :: PV.frzs es
end
theorem PV.length_frzs : ∀ es, (PV.frzs es).length = es.length
  | [] => rfl
  | _ :: es => by simp [PV.frzs, PV.length_frzs es]
def PV.isAg : PV → Bool
  | .ag _ => true
  | _ => false

def Sep (S S1 S2 : Nat → Prop) : Prop := (∀ x, S1 x → S x) ∧ (∀ x, S2 x → S x) ∧ ∀ x, S1 x → S2 x → False

mutual
def RV (w : World) (Z : Nat → Prop) : PV → Value → (Nat → Prop) → Prop
  | .sc x, v, _ => v = x
  | .xx, _, _ => True
  | .ag _, _, _ => False
  | .sl true k es, v, _ => ∃ A cap, v = .slice A es.length cap ∧ es.length ≤ cap ∧ (es.length = 0 ∨ ∃ b o, A = some ⟨b, o, none⟩ ∧ Z b ∧ RE w Z es b o k (fun _ => False))
  | .sl false k es, v, S => (v = .slice none 0 0 ∧ es.length = 0) ∨ ∃ b cap cur ty, v = .slice (some ⟨b, 0, none⟩) es.length cap ∧ es.length ≤ cap ∧ S b ∧
      w.heap[b]? = some (.cells cur ty (0, 0)) ∧ cur.size = cap * k ∧ RE w Z es b 0 k (fun x => S x ∧ x ≠ b)
def RE (w : World) (Z : Nat → Prop) : List PV → Nat → Nat → Nat → (Nat → Prop) → Prop
  | [], _, _, _, _ => True
  | e :: es, b, o, k, S => ∃ S1 S2, Sep S S1 S2 ∧ (match e with
      | .ag cs => cs.length = k ∧ RC w Z cs b o S1
      | e => k = 1 ∧ ∃ v, w.cell? ⟨b, o, none⟩ = some v ∧ RV w Z e v S1) ∧ RE w Z es b (o + k) k S2
def RC (w : World) (Z : Nat → Prop) : List PV → Nat → Nat → (Nat → Prop) → Prop
  | [], _, _, _ => True
  | c :: cs, b, o, S => ∃ S1 S2, Sep S S1 S2 ∧ (∃ v, w.cell? ⟨b, o, none⟩ = some v ∧ RV w Z c v S1) ∧ RC w Z cs b (o + 1) S2
end

def RN (w : World) (Z : Nat → Prop) (e : PV) (b o k : Nat) (S : Nat → Prop) : Prop :=
  match e with
  | .ag cs => cs.length = k ∧ RC w Z cs b o S
  | e => k = 1 ∧ ∃ v, w.cell? ⟨b, o, none⟩ = some v ∧ RV w Z e v S
theorem RN_ag {w Z cs b o k S} : RN w Z (.ag cs) b o k S = (cs.length = k ∧ RC w Z cs b o S) := rfl
theorem RN_cell {w Z e b o k S} (h : e.isAg = false) : RN w Z e b o k S = (k = 1 ∧ ∃ v, w.cell? ⟨b, o, none⟩ = some v ∧ RV w Z e v S) := by
  cases e <;> simp_all [RN, PV.isAg]
theorem RE_nil {w Z b o k S} : RE w Z [] b o k S = True := by unfold RE; rfl
theorem RE_cons {w Z e es b o k S} : RE w Z (e :: es) b o k S = ∃ S1 S2, Sep S S1 S2 ∧ RN w Z e b o k S1 ∧ RE w Z es b (o + k) k S2 := by
  rw [RE]; cases e <;> rfl
theorem RC_nil {w Z b o S} : RC w Z [] b o S = True := by unfold RC; rfl
theorem RC_cons {w Z c cs b o S} : RC w Z (c :: cs) b o S = ∃ S1 S2, Sep S S1 S2 ∧ (∃ v, w.cell? ⟨b, o, none⟩ = some v ∧ RV w Z c v S1) ∧ RC w Z cs b (o + 1) S2 := by
  rw [RC]
theorem RV_sc {w Z x v S} : RV w Z (.sc x) v S = (v = x) := by unfold RV; rfl
theorem RV_xx {w Z v S} : RV w Z .xx v S = True := by unfold RV; rfl
theorem RV_ag {w Z cs v S} : RV w Z (.ag cs) v S = False := by unfold RV; rfl
theorem RV_fz {w Z k es v S} : RV w Z (.sl true k es) v S = ∃ A cap, v = .slice A es.length cap ∧ es.length ≤ cap ∧ (es.length = 0 ∨ ∃ b o, A = some ⟨b, o, none⟩ ∧ Z b ∧ RE w Z es b o k (fun _ => False)) := by
  rw [RV]
theorem RV_ow {w Z k es v S} : RV w Z (.sl false k es) v S = ((v = .slice none 0 0 ∧ es.length = 0) ∨ ∃ b cap cur ty, v = .slice (some ⟨b, 0, none⟩) es.length cap ∧ es.length ≤ cap ∧ S b ∧
      w.heap[b]? = some (.cells cur ty (0, 0)) ∧ cur.size = cap * k ∧ RE w Z es b 0 k (fun x => S x ∧ x ≠ b)) := by
  rw [RV]

def Agr (w w' : World) (X : Nat → Prop) : Prop := ∀ x, X x → w'.heap[x]? = w.heap[x]?
theorem Agr.cell {w w' X} (h : Agr w w' X) {b o} (hb : X b) : w'.cell? ⟨b, o, none⟩ = w.cell? ⟨b, o, none⟩ := World.cell?_of_block (h b hb)

theorem Sep.mono {S S' S1 S2} (h : Sep S S1 S2) (hs : ∀ x, S x → S' x) : Sep S' S1 S2 := ⟨fun x h1 => hs x (h.1 x h1), fun x h2 => hs x (h.2.1 x h2), h.2.2⟩

mutual
theorem RV_congr {w w' : World} {Z Z' : Nat → Prop} (hz : Agr w w' Z) (hZ : ∀ x, Z x → Z' x) : ∀ (t : PV) (v : Value) (S S' : Nat → Prop), Agr w w' S → (∀ x, S x → S' x) → RV w Z t v S → RV w' Z' t v S'
  | .sc x, v, S, S', _, _, h => by rw [RV_sc] at *; exact h
  | .xx, v, S, S', _, _, h => by rw [RV_xx]; trivial
  | .ag _, v, S, S', _, _, h => by rw [RV_ag] at h; exact h.elim
  | .sl true k es, v, S, S', _, _, h => by
    rw [RV_fz] at *
    obtain ⟨A, cap, rfl, hc, h⟩ := h
    refine ⟨A, cap, rfl, hc, h.imp id ?_⟩
    rintro ⟨b, o, rfl, hb, he⟩
    exact ⟨b, o, rfl, hZ b hb, RE_congr hz hZ es b o k _ _ (fun _ h => h.elim) (fun _ h => h) (fun j _ _ => hz.cell hb) he⟩
  | .sl false k es, v, S, S', hs, hS, h => by
    rw [RV_ow] at *
    refine h.imp id ?_
    rintro ⟨b, cap, cur, ty, rfl, hc, hb, hh, hsz, he⟩
    exact ⟨b, cap, cur, ty, rfl, hc, hS b hb, (hs b hb).trans hh, hsz, RE_congr hz hZ es b 0 k _ _ (fun x h => hs x h.1) (fun x h => ⟨hS x h.1, h.2⟩) (fun j _ _ => hs.cell hb) he⟩
theorem RE_congr {w w' : World} {Z Z' : Nat → Prop} (hz : Agr w w' Z) (hZ : ∀ x, Z x → Z' x) : ∀ (es : List PV) (b o k : Nat) (S S' : Nat → Prop), Agr w w' S → (∀ x, S x → S' x) →
    (∀ j, o ≤ j → j < o + es.length * k → w'.cell? ⟨b, j, none⟩ = w.cell? ⟨b, j, none⟩) → RE w Z es b o k S → RE w' Z' es b o k S'
  | [], _, _, _, _, _, _, _, _, _ => by rw [RE_nil]; trivial
  | .ag cs :: es, b, o, k, S, S', hs, hS, hc, h => by
    rw [RE_cons] at *
    obtain ⟨S1, S2, hsep, h1, h2⟩ := h
    simp only [List.length_cons, Nat.add_mul, Nat.one_mul] at hc
    rw [RN_ag] at h1
    refine ⟨S1, S2, hsep.mono hS, ?_, RE_congr hz hZ es b (o + k) k S2 S2 (fun x h => hs x (hsep.2.1 x h)) (fun _ h => h) (fun j h1 h2 => hc j (by omega) (by omega)) h2⟩
    rw [RN_ag]
    exact ⟨h1.1, RC_congr hz hZ cs b o S1 S1 (fun x h => hs x (hsep.1 x h)) (fun _ h => h) (fun j h2 h3 => hc j h2 (by have := h1.1; omega)) h1.2⟩
  | .sc x :: es, b, o, k, S, S', hs, hS, hc, h => by
    rw [RE_cons] at *
    obtain ⟨S1, S2, hsep, h1, h2⟩ := h
    simp only [List.length_cons, Nat.add_mul, Nat.one_mul] at hc
    rw [RN_cell rfl] at h1
    refine ⟨S1, S2, hsep.mono hS, ?_, RE_congr hz hZ es b (o + k) k S2 S2 (fun x h => hs x (hsep.2.1 x h)) (fun _ h => h) (fun j h1 h2 => hc j (by omega) (by omega)) h2⟩
    rw [RN_cell rfl]
    obtain ⟨hk, v, hv, hr⟩ := h1
    exact ⟨hk, v, (hc o (by omega) (by omega)).trans hv, RV_congr hz hZ (.sc x) v S1 S1 (fun x h => hs x (hsep.1 x h)) (fun _ h => h) hr⟩
  | .xx :: es, b, o, k, S, S', hs, hS, hc, h => by
    rw [RE_cons] at *
    obtain ⟨S1, S2, hsep, h1, h2⟩ := h
    simp only [List.length_cons, Nat.add_mul, Nat.one_mul] at hc
    rw [RN_cell rfl] at h1
    refine ⟨S1, S2, hsep.mono hS, ?_, RE_congr hz hZ es b (o + k) k S2 S2 (fun x h => hs x (hsep.2.1 x h)) (fun _ h => h) (fun j h1 h2 => hc j (by omega) (by omega)) h2⟩
    rw [RN_cell rfl]
    obtain ⟨hk, v, hv, hr⟩ := h1
    exact ⟨hk, v, (hc o (by omega) (by omega)).trans hv, RV_congr hz hZ .xx v S1 S1 (fun x h => hs x (hsep.1 x h)) (fun _ h => h) hr⟩
  | .sl fz k' es' :: es, b, o, k, S, S', hs, hS, hc, h => by
    rw [RE_cons] at *
    obtain ⟨S1, S2, hsep, h1, h2⟩ := h
    simp only [List.length_cons, Nat.add_mul, Nat.one_mul] at hc
    rw [RN_cell rfl] at h1
    refine ⟨S1, S2, hsep.mono hS, ?_, RE_congr hz hZ es b (o + k) k S2 S2 (fun x h => hs x (hsep.2.1 x h)) (fun _ h => h) (fun j h1 h2 => hc j (by omega) (by omega)) h2⟩
    rw [RN_cell rfl]
    obtain ⟨hk, v, hv, hr⟩ := h1
    exact ⟨hk, v, (hc o (by omega) (by omega)).trans hv, RV_congr hz hZ (.sl fz k' es') v S1 S1 (fun x h => hs x (hsep.1 x h)) (fun _ h => h) hr⟩
theorem RC_congr {w w' : World} {Z Z' : Nat → Prop} (hz : Agr w w' Z) (hZ : ∀ x, Z x → Z' x) : ∀ (cs : List PV) (b o : Nat) (S S' : Nat → Prop), Agr w w' S → (∀ x, S x → S' x) →
    (∀ j, o ≤ j → j < o + cs.length → w'.cell? ⟨b, j, none⟩ = w.cell? ⟨b, j, none⟩) → RC w Z cs b o S → RC w' Z' cs b o S'
  | [], _, _, _, _, _, _, _, _ => by rw [RC_nil]; trivial
  | c :: cs, b, o, S, S', hs, hS, hc, h => by
    rw [RC_cons] at *
    obtain ⟨S1, S2, hsep, ⟨v, hv, hr⟩, h2⟩ := h
    simp only [List.length_cons] at hc
    exact ⟨S1, S2, hsep.mono hS, ⟨v, (hc o (by omega) (by omega)).trans hv, RV_congr hz hZ c v S1 S1 (fun x h => hs x (hsep.1 x h)) (fun _ h => h) hr⟩,
      RC_congr hz hZ cs b (o + 1) S2 S2 (fun x h => hs x (hsep.2.1 x h)) (fun _ h => h) (fun j h1 h2 => hc j (by omega) (by omega)) h2⟩
end
theorem RN_congr {w w' : World} {Z Z' : Nat → Prop} (hz : Agr w w' Z) (hZ : ∀ x, Z x → Z' x) {e b o k S S'} (hs : Agr w w' S) (hS : ∀ x, S x → S' x)
    (hc : ∀ j, o ≤ j → j < o + k → w'.cell? ⟨b, j, none⟩ = w.cell? ⟨b, j, none⟩) (h : RN w Z e b o k S) : RN w' Z' e b o k S' := by
  have : RE w Z [e] b o k S := by rw [RE_cons]; exact ⟨S, fun _ => False, ⟨fun _ h => h, fun _ h => h.elim, fun _ _ h => h⟩, h, by rw [RE_nil]; trivial⟩
  have := RE_congr hz hZ [e] b o k S S' hs hS (by simpa using hc) this
  rw [RE_cons] at this
  obtain ⟨S1, S2, hsep, h1, _⟩ := this
  cases e with
  | ag cs => exact ⟨h1.1, RC_congr (fun _ _ => rfl) (fun _ h => h) cs b o S1 S' (fun _ _ => rfl) hsep.1 (fun _ _ _ => rfl) h1.2⟩
  | _ => 
    rw [RN_cell rfl] at *
    obtain ⟨hk, v, hv, hr⟩ := h1
    exact ⟨hk, v, hv, RV_congr (fun _ _ => rfl) (fun _ h => h) _ v S1 S' (fun _ _ => rfl) hsep.1 hr⟩
theorem RV_mono {w Z t v S S'} (hS : ∀ x, S x → S' x) (h : RV w Z t v S) : RV w Z t v S' := RV_congr (fun _ _ => rfl) (fun _ h => h) t v S S' (fun _ _ => rfl) hS h
theorem RN_mono {w Z t b o k S S'} (hS : ∀ x, S x → S' x) (h : RN w Z t b o k S) : RN w Z t b o k S' := RN_congr (fun _ _ => rfl) (fun _ h => h) (fun _ _ => rfl) hS (fun _ _ _ => rfl) h
theorem RE_mono {w Z t b o k S S'} (hS : ∀ x, S x → S' x) (h : RE w Z t b o k S) : RE w Z t b o k S' := RE_congr (fun _ _ => rfl) (fun _ h => h) t b o k S S' (fun _ _ => rfl) hS (fun _ _ _ => rfl) h
theorem RC_mono {w Z t b o S S'} (hS : ∀ x, S x → S' x) (h : RC w Z t b o S) : RC w Z t b o S' := RC_congr (fun _ _ => rfl) (fun _ h => h) t b o S S' (fun _ _ => rfl) hS (fun _ _ _ => rfl) h
end Go.Eng

namespace Go.Eng

def PV.get : List Nat → PV → Option PV
  | [], t => some t
  | i :: p, .ag cs => (cs[i]?).bind (PV.get p)
  | i :: p, .sl _ _ es => (es[i]?).bind (PV.get p)
  | _ :: _, _ => none
def PV.set : List Nat → PV → PV → PV
  | [], _, c => c
  | i :: p, .ag cs, c => .ag (cs.set i (PV.set p (cs[i]?.getD .xx) c))
  | i :: p, .sl f k es, c => .sl f k (es.set i (PV.set p (es[i]?.getD .xx) c))
  | _ :: _, t, _ => t
def PV.own : List Nat → PV → Bool
  | [], _ => true
  | i :: p, .ag cs => PV.own p (cs[i]?.getD .xx)
  | i :: p, .sl f _ es => !f && PV.own p (es[i]?.getD .xx)
  | _ :: _, _ => false
def locate (w : World) : List Nat → PV → Nat → Nat → Option (Nat × Nat)
  | [], _, b, o => some (b, o)
  | i :: p, .ag cs, b, o => (cs[i]?).bind fun c => locate w p c b (o + i)
  | i :: p, .sl _ k es, b, o => match w.cell? ⟨b, o, none⟩ with
    | some (.slice (some A) _ _) => (es[i]?).bind fun e => locate w p e A.block (A.off + i * k)
    | _ => none
  | _ :: _, _, _, _ => none

theorem RC_get {w Z} : ∀ (cs : List PV) (i : Nat) (c : PV) (b o : Nat) (S : Nat → Prop), cs[i]? = some c → RC w Z cs b o S →
    ∃ S1 S2, Sep S S1 S2 ∧ (∃ v, w.cell? ⟨b, o + i, none⟩ = some v ∧ RV w Z c v S1) ∧
      (∀ j d, j ≠ i → cs[j]? = some d → ∃ v, w.cell? ⟨b, o + j, none⟩ = some v ∧ RV w Z d v S2) ∧
      ∀ w' c' v' S1', Agr w w' S2 → Agr w w' Z → (∀ j, o ≤ j → j < o + cs.length → j ≠ o + i → w'.cell? ⟨b, j, none⟩ = w.cell? ⟨b, j, none⟩) →
        w'.cell? ⟨b, o + i, none⟩ = some v' → RV w' Z c' v' S1' → (∀ x, S1' x → S2 x → False) → RC w' Z (cs.set i c') b o (fun x => S1' x ∨ S2 x)
  | [], i, c, b, o, S, hi, _ => by simp at hi
  | d :: cs, 0, c, b, o, S, hi, h => by
    simp at hi; subst hi
    rw [RC_cons] at h
    obtain ⟨S1, S2, hsep, hv, h2⟩ := h
    refine ⟨S1, S2, hsep, by simpa using hv, ?_, ?_⟩
    · intro j d' hj hd
      obtain ⟨j, rfl⟩ : ∃ m, j = m + 1 := ⟨j - 1, by omega⟩
      simp at hd
      obtain ⟨T1, T2, tsep, ⟨v, hv, hr⟩, _⟩ := RC_get cs j d' b (o + 1) S2 hd h2
      exact ⟨v, by rw [show o + (j + 1) = o + 1 + j by omega]; exact hv, RV_mono tsep.1 hr⟩
    intro w' c' v' S1' hS hZ hc hv' hr hd
    simp only [List.set_cons_zero]
    rw [RC_cons]
    refine ⟨S1', S2, ⟨fun x h => .inl h, fun x h => .inr h, hd⟩, ⟨v', by simpa using hv', hr⟩, ?_⟩
    exact RC_congr hZ (fun _ h => h) cs b (o + 1) S2 S2 hS (fun _ h => h) (fun j h1 h2 => hc j (by omega) (by simp; omega) (by omega)) h2
  | d :: cs, i + 1, c, b, o, S, hi, h => by
    simp at hi
    rw [RC_cons] at h
    obtain ⟨S1, S2, hsep, ⟨v, hv, hr⟩, h2⟩ := h
    obtain ⟨T1, T2, tsep, hvc, hoth, hre⟩ := RC_get cs i c b (o + 1) S2 hi h2
    refine ⟨T1, fun x => S1 x ∨ T2 x, ⟨fun x h => hsep.2.1 x (tsep.1 x h), fun x h => h.elim (hsep.1 x) (fun h => hsep.2.1 x (tsep.2.1 x h)), fun x h1 h2 => h2.elim (fun h2 => hsep.2.2 x h2 (tsep.1 x h1)) (fun h2 => tsep.2.2 x h1 h2)⟩, by
      rw [show o + (i + 1) = o + 1 + i by omega]; exact hvc, ?_, ?_⟩
    · intro j d' hj hd
      cases j with
      | zero => simp at hd; subst hd; exact ⟨v, by simpa using hv, RV_mono (fun _ h => .inl h) hr⟩
      | succ j =>
        simp at hd
        obtain ⟨v, hv, hr⟩ := hoth j d' (by omega) hd
        exact ⟨v, by rw [show o + (j + 1) = o + 1 + j by omega]; exact hv, RV_mono (fun _ h => .inr h) hr⟩
    intro w' c' v' S1' hS hZ hc hv' hr' hd
    simp only [List.set_cons_succ]
    rw [RC_cons]
    refine ⟨S1, fun x => S1' x ∨ T2 x, ⟨fun x h => .inr (.inl h), fun x h => h.elim .inl (fun h => .inr (.inr h)), fun x h1 h2 => h2.elim (fun h2 => hd x h2 (.inl h1)) (fun h2 => hsep.2.2 x h1 (tsep.2.1 x h2))⟩, ?_, ?_⟩
    · exact ⟨v, (hc o (by omega) (by simp) (by omega)).trans hv, RV_congr hZ (fun _ h => h) d v S1 S1 (fun x h => hS x (.inl h)) (fun _ h => h) hr⟩
    · exact hre w' c' v' S1' (fun x h => hS x (.inr h)) hZ (fun j h1 h2 h3 => hc j (by omega) (by simp; omega) (by omega)) (by rw [show o + 1 + i = o + (i + 1) by omega]; exact hv') hr' (fun x h1 h2 => hd x h1 (.inr h2))

theorem RE_get {w Z} : ∀ (es : List PV) (i : Nat) (e : PV) (b o k : Nat) (S : Nat → Prop), es[i]? = some e → RE w Z es b o k S →
    ∃ S1 S2, Sep S S1 S2 ∧ RN w Z e b (o + i * k) k S1 ∧
      (∀ j d, j ≠ i → es[j]? = some d → RN w Z d b (o + j * k) k S2) ∧
      ∀ w' e' S1', Agr w w' S2 → Agr w w' Z → (∀ j, o ≤ j → j < o + es.length * k → (j < o + i * k ∨ o + i * k + k ≤ j) → w'.cell? ⟨b, j, none⟩ = w.cell? ⟨b, j, none⟩) →
        RN w' Z e' b (o + i * k) k S1' → (∀ x, S1' x → S2 x → False) → RE w' Z (es.set i e') b o k (fun x => S1' x ∨ S2 x)
  | [], i, e, b, o, k, S, hi, _ => by simp at hi
  | d :: es, 0, e, b, o, k, S, hi, h => by
    simp at hi; subst hi
    rw [RE_cons] at h
    obtain ⟨S1, S2, hsep, hv, h2⟩ := h
    refine ⟨S1, S2, hsep, by simpa using hv, ?_, ?_⟩
    · intro j d' hj hd
      obtain ⟨j, rfl⟩ : ∃ m, j = m + 1 := ⟨j - 1, by omega⟩
      simp at hd
      obtain ⟨T1, T2, tsep, hr, _⟩ := RE_get es j d' b (o + k) k S2 hd h2
      rw [show o + (j + 1) * k = o + k + j * k by rw [Nat.add_mul]; omega]
      exact RN_mono tsep.1 hr
    intro w' e' S1' hS hZ hc hr hd
    simp only [List.set_cons_zero]
    rw [RE_cons]
    refine ⟨S1', S2, ⟨fun x h => .inl h, fun x h => .inr h, hd⟩, by simpa using hr, ?_⟩
    exact RE_congr hZ (fun _ h => h) es b (o + k) k S2 S2 hS (fun _ h => h) (fun j h1 h2 => hc j (by omega) (by simp [Nat.add_mul]; omega) (by omega)) h2
  | d :: es, i + 1, e, b, o, k, S, hi, h => by
    simp at hi
    rw [RE_cons] at h
    obtain ⟨S1, S2, hsep, hr, h2⟩ := h
    obtain ⟨T1, T2, tsep, hvc, hoth, hre⟩ := RE_get es i e b (o + k) k S2 hi h2
    have ho : o + (i + 1) * k = o + k + i * k := by rw [Nat.add_mul]; omega
    refine ⟨T1, fun x => S1 x ∨ T2 x, ⟨fun x h => hsep.2.1 x (tsep.1 x h), fun x h => h.elim (hsep.1 x) (fun h => hsep.2.1 x (tsep.2.1 x h)), fun x h1 h2 => h2.elim (fun h2 => hsep.2.2 x h2 (tsep.1 x h1)) (fun h2 => tsep.2.2 x h1 h2)⟩, by
      rw [ho]; exact hvc, ?_, ?_⟩
    · intro j d' hj hd
      cases j with
      | zero => simp at hd; subst hd; simpa using RN_mono (fun _ h => .inl h) hr
      | succ j =>
        simp at hd
        rw [show o + (j + 1) * k = o + k + j * k by rw [Nat.add_mul]; omega]
        exact RN_mono (fun _ h => .inr h) (hoth j d' (by omega) hd)
    intro w' e' S1' hS hZ hc hr' hd
    simp only [List.set_cons_succ]
    rw [RE_cons]
    rw [ho] at hr' hc
    simp only [List.length_cons, Nat.add_mul, Nat.one_mul] at hc
    refine ⟨S1, fun x => S1' x ∨ T2 x, ⟨fun x h => .inr (.inl h), fun x h => h.elim .inl (fun h => .inr (.inr h)), fun x h1 h2 => h2.elim (fun h2 => hd x h2 (.inl h1)) (fun h2 => hsep.2.2 x h1 (tsep.2.1 x h2))⟩, ?_, ?_⟩
    · exact RN_congr hZ (fun _ h => h) (fun x h => hS x (.inl h)) (fun _ h => h) (fun j h1 h2 => hc j (by omega) (by omega) (by omega)) hr
    · exact hre w' e' S1' (fun x h => hS x (.inr h)) hZ (fun j h1 h2 h3 => hc j (by omega) (by omega) (by omega)) hr' (fun x h1 h2 => hd x h1 (.inr h2))

theorem RC_cell {w Z} {cs : List PV} {i : Nat} {c : PV} {b o : Nat} {S : Nat → Prop} (hi : cs[i]? = some c) (h : RC w Z cs b o S) : c.isAg = false := by
  obtain ⟨S1, S2, _, ⟨v, _, hr⟩, _⟩ := RC_get cs i c b o S hi h
  cases c <;> simp_all [PV.isAg, RV_ag]

theorem locate_congr {w w' : World} {Z : Nat → Prop} (hz : Agr w w' Z) : ∀ (p : List Nat) (t : PV) (b o k : Nat) (S : Nat → Prop), RN w Z t b o k S → Agr w w' S →
    (∀ j, o ≤ j → j < o + k → w'.cell? ⟨b, j, none⟩ = w.cell? ⟨b, j, none⟩) → locate w' p t b o = locate w p t b o
  | [], _, _, _, _, _, _, _, _ => by simp [locate]
  | i :: p, .ag cs, b, o, k, S, h, hs, hc => by
    simp only [locate]
    cases hi : cs[i]? with
    | none => rfl
    | some c =>
      obtain ⟨hk, h⟩ := h
      obtain ⟨S1, S2, hsep, ⟨v, hv, hr⟩, _⟩ := RC_get cs i c b o S hi h
      have hlt : i < cs.length := by rcases Nat.lt_or_ge i cs.length with h | h; exact h; simp [List.getElem?_eq_none h] at hi
      have hca := RC_cell hi h
      exact locate_congr hz p c b (o + i) 1 S1 (by rw [RN_cell hca]; exact ⟨rfl, v, hv, hr⟩) (fun x h => hs x (hsep.1 x h)) (fun j h1 h2 => hc j (by omega) (by omega))
  | i :: p, .sl f k' es, b, o, k, S, h, hs, hc => by
    simp only [locate]
    rw [RN_cell rfl] at h
    obtain ⟨rfl, v, hv, hr⟩ := h
    rw [hc o (by omega) (by omega), hv]
    cases hi : es[i]? with
    | none => simp
    | some e =>
      have hne : es.length ≠ 0 := by intro h0; simp [List.length_eq_zero_iff.1 h0] at hi
      have hlt : i < es.length := by rcases Nat.lt_or_ge i es.length with h | h; exact h; simp [List.getElem?_eq_none h] at hi
      have hle : i * k' + k' ≤ es.length * k' := by rw [← Nat.succ_mul]; exact Nat.mul_le_mul_right _ hlt
      cases f with
      | true =>
        rw [RV_fz] at hr
        obtain ⟨A, cap, rfl, hcap, hr⟩ := hr
        obtain ⟨b1, o1, rfl, hb1, he⟩ := hr.resolve_left hne
        obtain ⟨S1, S2, hsep, hn, _⟩ := RE_get es i e b1 o1 k' _ hi he
        simp only [Option.bind_some]
        exact locate_congr hz p e b1 (o1 + i * k') k' S1 hn (fun x h => (hsep.1 x h).elim) (fun j h1 h2 => hz.cell hb1)
      | false =>
        rw [RV_ow] at hr
        obtain ⟨b1, cap, cur, ty, rfl, hcap, hb1, hh, hsz, he⟩ := hr.resolve_left (fun h => hne h.2)
        obtain ⟨S1, S2, hsep, hn, _⟩ := RE_get es i e b1 0 k' _ hi he
        simp only [Option.bind_some]
        exact locate_congr hz p e b1 (0 + i * k') k' S1 hn (fun x h => hs x (hsep.1 x h).1) (fun j h1 h2 => hs.cell hb1)
  | i :: p, .sc _, b, o, k, S, h, hs, hc => by simp [locate]
  | i :: p, .xx, b, o, k, S, h, hs, hc => by simp [locate]
theorem cell_at {w w' : World} {Z : Nat → Prop} (hz : Agr w w' Z) : ∀ (p : List Nat) (t : PV) (b o k : Nat) (S : Nat → Prop) (m : PV) (x : Nat × Nat), RN w Z t b o k S → Agr w w' S →
    (∀ j, o ≤ j → j < o + k → w'.cell? ⟨b, j, none⟩ = w.cell? ⟨b, j, none⟩) → locate w p t b o = some x → t.get p = some m → m.isAg = false → w'.cell? ⟨x.1, x.2, none⟩ = w.cell? ⟨x.1, x.2, none⟩
  | [], t, b, o, k, S, m, x, h, hs, hc, hl, hg, ha => by
    simp only [PV.get, Option.some.injEq] at hg; subst hg
    simp only [locate, Option.some.injEq] at hl; subst hl
    rw [RN_cell ha] at h
    obtain ⟨rfl, _⟩ := h
    exact hc o (by omega) (by omega)
  | i :: p, .ag cs, b, o, k, S, m, x, h, hs, hc, hl, hg, ha => by
    simp only [locate] at hl
    simp only [PV.get] at hg
    cases hi : cs[i]? with
    | none => simp [hi] at hg
    | some c =>
      simp only [hi, Option.bind_some] at hg hl
      obtain ⟨hk, h⟩ := h
      obtain ⟨S1, S2, hsep, ⟨v, hv, hr⟩, _⟩ := RC_get cs i c b o S hi h
      have hlt : i < cs.length := by rcases Nat.lt_or_ge i cs.length with h | h; exact h; simp [List.getElem?_eq_none h] at hi
      have hca := RC_cell hi h
      exact cell_at hz p c b (o + i) 1 S1 m x (by rw [RN_cell hca]; exact ⟨rfl, v, hv, hr⟩) (fun x h => hs x (hsep.1 x h)) (fun j h1 h2 => hc j (by omega) (by omega)) hl hg ha
  | i :: p, .sl f k' es, b, o, k, S, m, x, h, hs, hc, hl, hg, ha => by
    simp only [locate] at hl
    simp only [PV.get] at hg
    rw [RN_cell rfl] at h
    obtain ⟨rfl, v, hv, hr⟩ := h
    rw [hv] at hl
    cases hi : es[i]? with
    | none => simp [hi] at hg
    | some e =>
      simp only [hi, Option.bind_some] at hg
      have hne : es.length ≠ 0 := by intro h0; simp [List.length_eq_zero_iff.1 h0] at hi
      cases f with
      | true =>
        rw [RV_fz] at hr
        obtain ⟨A, cap, rfl, hcap, hr⟩ := hr
        obtain ⟨b1, o1, rfl, hb1, he⟩ := hr.resolve_left hne
        obtain ⟨S1, S2, hsep, hn, _⟩ := RE_get es i e b1 o1 k' _ hi he
        simp only [hi, Option.bind_some] at hl
        exact cell_at hz p e b1 (o1 + i * k') k' S1 m x hn (fun x h => (hsep.1 x h).elim) (fun j h1 h2 => hz.cell hb1) hl hg ha
      | false =>
        rw [RV_ow] at hr
        obtain ⟨b1, cap, cur, ty, rfl, hcap, hb1, hh, hsz, he⟩ := hr.resolve_left (fun h => hne h.2)
        obtain ⟨S1, S2, hsep, hn, _⟩ := RE_get es i e b1 0 k' _ hi he
        simp only [hi, Option.bind_some] at hl
        exact cell_at hz p e b1 (0 + i * k') k' S1 m x hn (fun x h => hs x (hsep.1 x h).1) (fun j h1 h2 => hs.cell hb1) hl hg ha
  | i :: p, .sc _, b, o, k, S, m, x, h, hs, hc, hl, hg, ha => by simp [locate] at hl
  | i :: p, .xx, b, o, k, S, m, x, h, hs, hc, hl, hg, ha => by simp [locate] at hl
theorem PV.set_isAg {q : List Nat} {c n : PV} (hc : c.isAg = false) (hn : n.isAg = false) : (PV.set q c n).isAg = false := by
  cases q with
  | nil => simpa [PV.set] using hn
  | cons i q => cases c <;> simp_all [PV.set, PV.isAg]
end Go.Eng

namespace Go.Eng

def UpdC (w w' : World) (b o : Nat) (u : Value) (X : Nat → Prop) : Prop :=
  (∀ x, X x → x ≠ b → w'.heap[x]? = w.heap[x]?) ∧ ∃ cur ty fr, w.heap[b]? = some (.cells cur ty fr) ∧ w'.heap[b]? = some (.cells (cur.setIfInBounds o u) ty fr)
theorem UpdC.same {w w' b o u X} (h : UpdC w w' b o u X) {v} (hv : w.cell? ⟨b, o, none⟩ = some v) : w'.cell? ⟨b, o, none⟩ = some u := by
  obtain ⟨_, cur, ty, fr, h1, h2⟩ := h
  simp [World.cell?, h1] at hv
  have : o < cur.size := by rcases Nat.lt_or_ge o cur.size with h | h; exact h; simp [Array.getElem?_eq_none h] at hv
  simp [World.cell?, h2, this]
theorem UpdC.other {w w' b o u X} (h : UpdC w w' b o u X) {j} (hj : j ≠ o) : w'.cell? ⟨b, j, none⟩ = w.cell? ⟨b, j, none⟩ := by
  obtain ⟨_, cur, ty, fr, h1, h2⟩ := h
  simp [World.cell?, h1, h2, Array.getElem?_setIfInBounds_ne (Ne.symm hj)]
theorem UpdC.off {w w' b o u X} (h : UpdC w w' b o u X) {x j} (hx : X x) (hb : x ≠ b) : w'.cell? ⟨x, j, none⟩ = w.cell? ⟨x, j, none⟩ := World.cell?_of_block (h.1 x hx hb)
theorem UpdC.of_agr {w w' b o u X} (h : Agr w w' X) (hb : X b) (hc : ∃ cur ty fr, w.heap[b]? = some (.cells cur ty fr)) (hv : w.cell? ⟨b, o, none⟩ = some u) : UpdC w w' b o u X := by
  obtain ⟨cur, ty, fr, h1⟩ := hc
  refine ⟨fun x hx _ => h x hx, cur, ty, fr, h1, ?_⟩
  rw [h b hb, h1]
  have hv' : cur[o]? = some u := by simpa [World.cell?, h1] using hv
  have : cur.setIfInBounds o u = cur := by
    apply Array.ext_getElem?
    intro i
    rw [Array.getElem?_setIfInBounds]
    split
    · rename_i hi; subst hi; split
      · exact hv'.symm
      · rename_i hh; simp [Array.getElem?_eq_none (Nat.le_of_not_lt hh)] at hv'
    · rfl
  rw [this]

def OwnB (w : World) (b : Nat) : Prop := ∃ cur ty, w.heap[b]? = some (.cells cur ty (0, 0))
def Ext (q p : List Nat) : Prop := q <+: p ∧ p ≠ q
theorem Ext.cons {i q p} : Ext (i :: q) (i :: p) ↔ Ext q p := by simp [Ext]

theorem focus {w : World} {Z : Nat → Prop} : ∀ (q : List Nat) (t : PV) (b o k : Nat) (S : Nat → Prop) (n : PV), RN w Z t b o k S → ¬ S b → t.own q = true → t.get q = some n → n.isAg = false →
    ∃ b' o' u S1 S2, locate w q t b o = some (b', o') ∧ Sep S S1 S2 ∧ ((b' = b ∧ o ≤ o' ∧ o' < o + k) ∨ (S2 b' ∧ OwnB w b')) ∧ w.cell? ⟨b', o', none⟩ = some u ∧ RV w Z n u S1 ∧
      ∀ w' n' u' S1', n'.isAg = false → UpdC w w' b' o' u' (fun x => S2 x ∨ x = b) → Agr w w' Z → RV w' Z n' u' S1' → (∀ x, S1' x → ¬ S2 x ∧ x ≠ b) →
        RN w' Z (t.set q n') b o k (fun x => S1' x ∨ S2 x) ∧
        ∀ p' x, locate w p' t b o = some x → ¬ Ext q p' → locate w' p' (t.set q n') b o = some x ∧
          (∀ m, t.get p' = some m → m.isAg = false → p' ≠ q → w'.cell? ⟨x.1, x.2, none⟩ = w.cell? ⟨x.1, x.2, none⟩)
  | [], t, b, o, k, S, n, h, hb, ho, hg, ha => by
    simp only [PV.get, Option.some.injEq] at hg; subst hg
    have h0 := h
    rw [RN_cell ha] at h
    obtain ⟨rfl, u, hu, hr⟩ := h
    refine ⟨b, o, u, S, fun _ => False, rfl, ⟨fun _ h => h, fun _ h => h.elim, fun _ _ h => h⟩, .inl ⟨rfl, by omega, by omega⟩, hu, hr, ?_⟩
    intro w' n' u' S1' hn' hu' hz hr' hd
    refine ⟨?_, ?_⟩
    · simp only [PV.set]
      rw [RN_cell hn']
      exact ⟨rfl, u', hu'.same hu, RV_mono (fun _ h => .inl h) hr'⟩
    · intro p' x hx he
      cases p' with
      | nil => simp only [locate] at hx ⊢; exact ⟨hx, fun m hm _ hp => absurd rfl hp⟩
      | cons i p => exact absurd ⟨List.nil_prefix, by simp⟩ he
  | i :: q, .ag cs, b, o, k, S, n, h, hb, ho, hg, ha => by
    obtain ⟨hk, h⟩ := h
    simp only [PV.get] at hg
    cases hi : cs[i]? with
    | none => simp [hi] at hg
    | some c =>
      simp only [hi, Option.bind_some] at hg
      simp only [PV.own, hi, Option.getD_some] at ho
      obtain ⟨S1, S2, hsep, ⟨v, hv, hr⟩, hoth, hre⟩ := RC_get cs i c b o S hi h
      have hlt : i < cs.length := by rcases Nat.lt_or_ge i cs.length with h | h; exact h; simp [List.getElem?_eq_none h] at hi
      have hca := RC_cell hi h
      obtain ⟨b', o', u, T1, T2, hl, tsep, hloc, hu, hn, hres⟩ := focus q c b (o + i) 1 S1 n (by rw [RN_cell hca]; exact ⟨rfl, v, hv, hr⟩) (fun h => hb (hsep.1 b h)) ho hg ha
      have hbS2 : ¬ S2 b := fun h => hb (hsep.2.1 b h)
      have hS2b' : ¬ S2 b' := by
        rcases hloc with ⟨rfl, _⟩ | ⟨h, _⟩
        · exact hbS2
        · exact fun h2 => hsep.2.2 b' (tsep.2.1 b' h) h2
      refine ⟨b', o', u, T1, fun x => T2 x ∨ S2 x, by simp [locate, hi, hl], ⟨fun x h => hsep.1 x (tsep.1 x h), fun x h => h.elim (fun h => hsep.1 x (tsep.2.1 x h)) (hsep.2.1 x), fun x h1 h2 => h2.elim (tsep.2.2 x h1) (hsep.2.2 x (tsep.1 x h1))⟩,
        hloc.imp (fun ⟨h1, h2, h3⟩ => ⟨h1, by omega, by omega⟩) (fun h => ⟨.inl h.1, h.2⟩), hu, hn, ?_⟩
      intro w' n' u' S1' hn' hu' hz hr' hd
      have hu1 : UpdC w w' b' o' u' (fun x => T2 x ∨ x = b) := ⟨fun x hx hne => hu'.1 x (hx.elim (fun h => .inl (.inl h)) .inr) hne, hu'.2⟩
      obtain ⟨hN, hL⟩ := hres w' n' u' S1' hn' hu1 hz hr' (fun x h => ⟨fun h2 => (hd x h).1 (.inl h2), (hd x h).2⟩)
      have hAS2 : Agr w w' S2 := fun x hx => hu'.1 x (.inl (.inr hx)) (fun e => hS2b' (e ▸ hx))
      have hcells : ∀ j, j ≠ o + i → w'.cell? ⟨b, j, none⟩ = w.cell? ⟨b, j, none⟩ := by
        intro j hj
        by_cases e : b = b'
        · subst e
          rcases hloc with ⟨_, h1, h2⟩ | ⟨h, _⟩
          · exact hu'.other (by omega)
          · exact absurd (hsep.1 b (tsep.2.1 b h)) hb
        · exact hu'.off (.inr rfl) e
      have hset : ((PV.ag cs).set (i :: q) n') = .ag (cs.set i (c.set q n')) := by simp [PV.set, hi]
      refine ⟨?_, ?_⟩
      · rw [hset, RN_ag]
        refine ⟨by simpa using hk, ?_⟩
        have hNc : (PV.set q c n').isAg = false := PV.set_isAg hca hn'
        rw [RN_cell hNc] at hN
        obtain ⟨_, v', hv', hrv'⟩ := hN
        refine RC_mono (fun x h => ?_) (hre w' _ v' _ hAS2 hz (fun j h1 h2 h3 => hcells j h3) hv' hrv' (fun x h1 h2 => ?_))
        · exact h.elim (fun h => h.elim .inl (fun h => .inr (.inl h))) (fun h => .inr (.inr h))
        · exact h1.elim (fun h => (hd x h).1 (.inr h2)) (fun h => hsep.2.2 x (tsep.2.1 x h) h2)
      · intro p' x hx he
        rw [hset]
        cases p' with
        | nil => simp only [locate] at hx ⊢; exact ⟨hx, fun m hm hma _ => by simp [PV.get] at hm; subst hm; simp [PV.isAg] at hma⟩
        | cons j p =>
          simp only [locate] at hx ⊢
          by_cases hji : j = i
          · subst hji
            simp only [hi, Option.bind_some] at hx
            rw [Ext.cons] at he
            obtain ⟨h1, h2⟩ := hL p x hx he
            simp only [List.getElem?_set_self hlt, Option.bind_some]
            refine ⟨h1, fun m hm hma hp => h2 m (by simpa [PV.get, hi] using hm) hma (fun e => hp (by rw [e]))⟩
          · cases hj : cs[j]? with
            | none => simp [hj] at hx
            | some d =>
              simp only [hj, Option.bind_some] at hx
              simp only [List.getElem?_set_ne (Ne.symm hji), hj, Option.bind_some]
              obtain ⟨vd, hvd, hrd⟩ := hoth j d hji hj
              have hda := RC_cell hj h
              have hRNd : RN w Z d b (o + j) 1 S2 := by rw [RN_cell hda]; exact ⟨rfl, vd, hvd, hrd⟩
              refine ⟨by rw [locate_congr hz p d b (o + j) 1 S2 hRNd hAS2 (fun j' h1 h2 => hcells j' (by omega))]; exact hx, ?_⟩
              intro m hm hma _
              simp only [PV.get, hj, Option.bind_some] at hm
              exact cell_at hz p d b (o + j) 1 S2 m x hRNd hAS2 (fun j' h1 h2 => hcells j' (by omega)) hx hm hma
  | i :: q, .sl f k' es, b, o, k, S, n, h, hb, ho, hg, ha => by
    rw [RN_cell rfl] at h
    obtain ⟨rfl, v, hv, hr⟩ := h
    simp only [PV.get] at hg
    cases hi : es[i]? with
    | none => simp [hi] at hg
    | some e =>
      simp only [hi, Option.bind_some] at hg
      simp only [PV.own, hi, Option.getD_some, Bool.and_eq_true, Bool.not_eq_true'] at ho
      obtain ⟨rfl, ho⟩ := ho
      have hlt : i < es.length := by rcases Nat.lt_or_ge i es.length with h | h; exact h; simp [List.getElem?_eq_none h] at hi
      rw [RV_ow] at hr
      obtain ⟨b1, cap, cur, ty, rfl, hcap, hb1, hh, hsz, he⟩ := hr.resolve_left (fun h => by omega)
      have hb1b : b1 ≠ b := fun e => hb (e ▸ hb1)
      obtain ⟨S1, S2, hsep, hRN, hoth, hre⟩ := RE_get es i e b1 0 k' _ hi he
      obtain ⟨b', o', u, T1, T2, hl, tsep, hloc, hu, hn, hres⟩ := focus q e b1 (0 + i * k') k' S1 n hRN (fun h => (hsep.1 b1 h).2 rfl) ho hg ha
      have hle : i * k' + k' ≤ es.length * k' := by rw [← Nat.succ_mul]; exact Nat.mul_le_mul_right _ hlt
      have hS2b' : ¬ S2 b' := by
        rcases hloc with ⟨rfl, _⟩ | ⟨h, _⟩
        · exact fun h => (hsep.2.1 b' h).2 rfl
        · exact fun h2 => hsep.2.2 b' (tsep.2.1 b' h) h2
      have hb'b : b ≠ b' := by
        rcases hloc with ⟨rfl, _⟩ | ⟨h, _⟩
        · exact Ne.symm hb1b
        · exact fun e => hb (e ▸ (hsep.1 b' (tsep.2.1 b' h)).1)
      refine ⟨b', o', u, T1, fun x => T2 x ∨ S2 x ∨ x = b1, by have h0 := hl; simp only [Nat.zero_add] at h0; simp [locate, hv, hi, h0], ⟨fun x h => (hsep.1 x (tsep.1 x h)).1, fun x h => ?_, fun x h1 h2 => ?_⟩, ?_, hu, hn, ?_⟩
      · rcases h with h | h | rfl
        · exact (hsep.1 x (tsep.2.1 x h)).1
        · exact (hsep.2.1 x h).1
        · exact hb1
      · rcases h2 with h2 | h2 | rfl
        · exact tsep.2.2 x h1 h2
        · exact hsep.2.2 x (tsep.1 x h1) h2
        · exact (hsep.1 x (tsep.1 x h1)).2 rfl
      · exact .inr (hloc.elim (fun h => ⟨.inr (.inr h.1), cur, ty, by rw [h.1]; exact hh⟩) (fun h => ⟨.inl h.1, h.2⟩))
      intro w' n' u' S1' hn' hu' hz hr' hd
      have hu1 : UpdC w w' b' o' u' (fun x => T2 x ∨ x = b1) := ⟨fun x hx hne => hu'.1 x (hx.elim (fun h => .inl (.inl h)) (fun h => .inl (.inr (.inr h)))) hne, hu'.2⟩
      obtain ⟨hN, hL⟩ := hres w' n' u' S1' hn' hu1 hz hr' (fun x h => ⟨fun h2 => (hd x h).1 (.inl h2), fun e => (hd x h).1 (.inr (.inr e))⟩)
      have hAS2 : Agr w w' S2 := fun x hx => hu'.1 x (.inl (.inr (.inl hx))) (fun e => hS2b' (e ▸ hx))
      have hvb : w'.cell? ⟨b, o, none⟩ = some (.slice (some ⟨b1, 0, none⟩) es.length cap) := (hu'.off (.inr rfl) hb'b).trans hv
      have hcells : ∀ j, (j < i * k' ∨ i * k' + k' ≤ j) → w'.cell? ⟨b1, j, none⟩ = w.cell? ⟨b1, j, none⟩ := by
        intro j hj
        by_cases e : b1 = b'
        · subst e
          rcases hloc with ⟨_, h1, h2⟩ | ⟨h, _⟩
          · exact hu'.other (by omega)
          · exact absurd rfl (hsep.1 b1 (tsep.2.1 b1 h)).2
        · exact hu'.off (.inl (.inr (.inr rfl))) e
      have hb1' : ∃ cur', w'.heap[b1]? = some (.cells cur' ty (0, 0)) ∧ cur'.size = cap * k' := by
        by_cases e : b1 = b'
        · subst e
          obtain ⟨_, cur2, ty2, fr2, h1, h2⟩ := hu'
          rw [hh] at h1
          simp only [Option.some.injEq, Obj.cells.injEq] at h1
          obtain ⟨rfl, rfl, rfl⟩ := h1
          exact ⟨_, h2, by simpa using hsz⟩
        · exact ⟨cur, (hu'.1 b1 (.inl (.inr (.inr rfl))) e).trans hh, hsz⟩
      have hset : ((PV.sl false k' es).set (i :: q) n') = .sl false k' (es.set i (e.set q n')) := by simp [PV.set, hi]
      refine ⟨?_, ?_⟩
      · rw [hset, RN_cell rfl]
        refine ⟨rfl, _, hvb, ?_⟩
        rw [RV_ow]
        obtain ⟨cur', hh', hsz'⟩ := hb1'
        refine .inr ⟨b1, cap, cur', ty, by simp, by simpa using hcap, .inr (.inr (.inr rfl)), hh', hsz', ?_⟩
        refine RE_mono (fun x h => ?_) (hre w' _ _ hAS2 hz (fun j h1 h2 h3 => hcells j (by omega)) hN (fun x h1 h2 => ?_))
        · rcases h with (h | h) | h
          · exact ⟨.inl h, fun e => (hd x h).1 (.inr (.inr e))⟩
          · exact ⟨.inr (.inl h), (hsep.1 x (tsep.2.1 x h)).2⟩
          · exact ⟨.inr (.inr (.inl h)), (hsep.2.1 x h).2⟩
        · exact h1.elim (fun h => (hd x h).1 (.inr (.inl h2))) (fun h => hsep.2.2 x (tsep.2.1 x h) h2)
      · intro p' x hx he'
        rw [hset]
        cases p' with
        | nil => simp only [locate] at hx ⊢; exact ⟨hx, fun m hm hma _ => by simp only [Option.some.injEq] at hx; subst hx; exact hvb.trans hv.symm⟩
        | cons j p =>
          simp only [locate, hvb, hv] at hx ⊢
          by_cases hji : j = i
          · subst hji
            simp only [hi, Option.bind_some] at hx
            rw [Ext.cons] at he'
            obtain ⟨h1, h2⟩ := hL p x hx he'
            simp only [List.getElem?_set_self hlt, Option.bind_some]
            refine ⟨h1, fun m hm hma hp => h2 m (by simpa [PV.get, hi] using hm) hma (fun e => hp (by rw [e]))⟩
          · cases hj : es[j]? with
            | none => simp [hj] at hx
            | some d =>
              simp only [hj, Option.bind_some] at hx
              simp only [List.getElem?_set_ne (Ne.symm hji), hj, Option.bind_some]
              have hRNd := hoth j d hji hj
              have hout : ∀ j', 0 + j * k' ≤ j' → j' < 0 + j * k' + k' → w'.cell? ⟨b1, j', none⟩ = w.cell? ⟨b1, j', none⟩ := by
                intro j' h1 h2
                refine hcells j' ?_
                rcases Nat.lt_or_gt_of_ne hji with h | h
                · have : j * k' + k' ≤ i * k' := by rw [← Nat.succ_mul]; exact Nat.mul_le_mul_right _ h
                  omega
                · have : i * k' + k' ≤ j * k' := by rw [← Nat.succ_mul]; exact Nat.mul_le_mul_right _ h
                  omega
              refine ⟨by rw [locate_congr hz p d b1 (0 + j * k') k' S2 hRNd hAS2 hout]; exact hx, ?_⟩
              intro m hm hma _
              simp only [PV.get, hj, Option.bind_some] at hm
              exact cell_at hz p d b1 (0 + j * k') k' S2 m x hRNd hAS2 hout hx hm hma
  | i :: q, .sc _, b, o, k, S, n, h, hb, ho, hg, ha => by simp [PV.get] at hg
  | i :: q, .xx, b, o, k, S, n, h, hb, ho, hg, ha => by simp [PV.get] at hg
end Go.Eng

namespace Go.Eng

inductive Root where
  | bx (cs : List PV)
  | sv (t : PV)
  deriving Inhabited
def Root.node : Root → PV
  | .bx cs => .ag cs
  | .sv t => t
def Root.put (r : Root) (p : List Nat) (c : PV) : Root :=
  match r with
  | .bx cs => match PV.set p (.ag cs) c with
    | .ag cs' => .bx cs'
    | _ => .bx cs
  | .sv t => .sv (PV.set p t c)
def rLoc (w : World) : Root → Value → List Nat → Option (Nat × Nat)
  | .bx cs, .pointer (some a), p => locate w p (.ag cs) a.block a.off
  | .sv (.sl _ k es), .slice (some A) _ _, i :: p => (es[i]?).bind fun e => locate w p e A.block (A.off + i * k)
  | _, _, _ => none
def rAt (w : World) (r : Root) (v : Value) (p : List Nat) : Option Value :=
  match r, p with
  | .sv _, [] => some v
  | r, p => (rLoc w r v p).bind fun x => w.cell? ⟨x.1, x.2, none⟩
def PV.isOwn : PV → Bool
  | .sl f _ _ => !f
  | _ => false
def RR (w : World) (Z : Nat → Prop) : Root → Value → (Nat → Prop) → Prop
  | .bx cs, v, S => ∃ b cur ty, v = .pointer (some ⟨b, 0, none⟩) ∧ S b ∧ w.heap[b]? = some (.cells cur ty (0, 0)) ∧ cur.size = cs.length ∧ RC w Z cs b 0 (fun x => S x ∧ x ≠ b)
  | .sv t, v, S => t.isOwn = true ∧ RV w Z t v S

theorem RR_congr {w w' : World} {Z Z' : Nat → Prop} (hz : Agr w w' Z) (hZ : ∀ x, Z x → Z' x) {r v} {S S' : Nat → Prop} (hs : Agr w w' S) (hS : ∀ x, S x → S' x) (h : RR w Z r v S) : RR w' Z' r v S' := by
  cases r with
  | bx cs =>
    obtain ⟨b, cur, ty, hv, hb, hh, hsz, hc⟩ := h
    exact ⟨b, cur, ty, hv, hS b hb, (hs b hb).trans hh, hsz, RC_congr hz hZ cs b 0 _ _ (fun x h => hs x h.1) (fun x h => ⟨hS x h.1, h.2⟩) (fun _ _ _ => hs.cell hb) hc⟩
  | sv t => exact ⟨h.1, RV_congr hz hZ t v S S' hs hS h.2⟩
theorem RR_focus {w : World} {Z : Nat → Prop} {r : Root} {v : Value} {S : Nat → Prop} {q : List Nat} {n : PV} (h : RR w Z r v S) (hq : q ≠ []) (ho : r.node.own q = true) (hg : r.node.get q = some n) (ha : n.isAg = false) :
    ∃ b' o' u S1 S2, rLoc w r v q = some (b', o') ∧ Sep S S1 S2 ∧ S2 b' ∧ OwnB w b' ∧ w.cell? ⟨b', o', none⟩ = some u ∧ RV w Z n u S1 ∧
      ∀ w' n' u' S1', n'.isAg = false → UpdC w w' b' o' u' S2 → Agr w w' Z → RV w' Z n' u' S1' → (∀ x, S1' x → ¬ S2 x) →
        RR w' Z (r.put q n') v (fun x => S1' x ∨ S2 x) ∧
        ∀ p' x, rLoc w r v p' = some x → ¬ Ext q p' → rLoc w' (r.put q n') v p' = some x ∧
          (∀ m, r.node.get p' = some m → m.isAg = false → p' ≠ q → w'.cell? ⟨x.1, x.2, none⟩ = w.cell? ⟨x.1, x.2, none⟩) := by
  cases r with
  | bx cs =>
    obtain ⟨b, cur, ty, rfl, hb, hh, hsz, hc⟩ := h
    obtain ⟨b', o', u, S1, S2, hl, hsep, hloc, hu, hn, hres⟩ := focus q (.ag cs) b 0 cs.length (fun x => S x ∧ x ≠ b) n (by rw [RN_ag]; exact ⟨rfl, hc⟩) (fun h => h.2 rfl) ho hg ha
    refine ⟨b', o', u, S1, fun x => S2 x ∨ x = b, hl, ⟨fun x h => (hsep.1 x h).1, fun x h => h.elim (fun h => (hsep.2.1 x h).1) (fun e => e ▸ hb), fun x h1 h2 => h2.elim (hsep.2.2 x h1) (fun e => (hsep.1 x h1).2 e)⟩,
      hloc.elim (fun h => .inr h.1) (fun h => .inl h.1), hloc.elim (fun h => ⟨cur, ty, by rw [h.1]; exact hh⟩) (fun h => h.2), hu, hn, ?_⟩
    intro w' n' u' S1' hn' hu' hz hr' hd
    obtain ⟨hN, hL⟩ := hres w' n' u' S1' hn' hu' hz hr' (fun x h => ⟨fun h2 => hd x h (.inl h2), fun e => hd x h (.inr e)⟩)
    obtain ⟨i, q', rfl⟩ : ∃ i q', q = i :: q' := by cases q with | nil => exact absurd rfl hq | cons i q' => exact ⟨i, q', rfl⟩
    have hput : (Root.bx cs).put (i :: q') n' = .bx (cs.set i (PV.set q' (cs[i]?.getD .xx) n')) := by simp [Root.put, PV.set]
    have hset : PV.set (i :: q') (.ag cs) n' = .ag (cs.set i (PV.set q' (cs[i]?.getD .xx) n')) := by simp [PV.set]
    rw [hput]
    rw [hset] at hN hL
    refine ⟨?_, ?_⟩
    · rw [RN_ag] at hN
      have hb' : ∃ cur', w'.heap[b]? = some (.cells cur' ty (0, 0)) ∧ cur'.size = cs.length := by
        by_cases e : b = b'
        · subst e
          obtain ⟨_, cur2, ty2, fr2, h1, h2⟩ := hu'
          rw [hh] at h1
          simp only [Option.some.injEq, Obj.cells.injEq] at h1
          obtain ⟨rfl, rfl, rfl⟩ := h1
          exact ⟨_, h2, by simpa using hsz⟩
        · exact ⟨cur, (hu'.1 b (.inr rfl) e).trans hh, hsz⟩
      obtain ⟨cur', hh', hsz'⟩ := hb'
      refine ⟨b, cur', ty, rfl, .inr (.inr rfl), hh', by simpa using hsz', RC_mono (fun x h => ?_) hN.2⟩
      rcases h with h | h
      · exact ⟨.inl h, fun e => hd x h (.inr e)⟩
      · exact ⟨.inr (.inl h), (hsep.2.1 x h).2⟩
    · exact hL
  | sv t =>
    obtain ⟨hown, h⟩ := h
    cases t with
    | sl f k es =>
      simp [PV.isOwn] at hown; subst hown
      obtain ⟨i, q', rfl⟩ : ∃ i q', q = i :: q' := by cases q with | nil => exact absurd rfl hq | cons i q' => exact ⟨i, q', rfl⟩
      -- the same ars a slice in a cell, but that its value lies in no cell
      simp only [Root.node, PV.get] at hg
      cases hi : es[i]? with
      | none => simp [hi] at hg
      | some e =>
        simp only [hi, Option.bind_some] at hg
        simp only [Root.node, PV.own, hi, Option.getD_some, Bool.not_false, Bool.true_and] at ho
        have hlt : i < es.length := by rcases Nat.lt_or_ge i es.length with h | h; exact h; simp [List.getElem?_eq_none h] at hi
        rw [RV_ow] at h
        obtain ⟨b1, cap, cur, ty, rfl, hcap, hb1, hh, hsz, he⟩ := h.resolve_left (fun h => by omega)
        obtain ⟨S1, S2, hsep, hRN, hoth, hre⟩ := RE_get es i e b1 0 k _ hi he
        obtain ⟨b', o', u, T1, T2, hl, tsep, hloc, hu, hn, hres⟩ := focus q' e b1 (0 + i * k) k S1 n hRN (fun h => (hsep.1 b1 h).2 rfl) ho hg ha
        have hS2b' : ¬ S2 b' := by
          rcases hloc with ⟨rfl, _⟩ | ⟨h, _⟩
          · exact fun h => (hsep.2.1 b' h).2 rfl
          · exact fun h2 => hsep.2.2 b' (tsep.2.1 b' h) h2
        refine ⟨b', o', u, T1, fun x => T2 x ∨ S2 x ∨ x = b1, by simp only [Nat.zero_add] at hl; simp [rLoc, hi, hl], ⟨fun x h => (hsep.1 x (tsep.1 x h)).1, fun x h => ?_, fun x h1 h2 => ?_⟩, ?_, ?_, hu, hn, ?_⟩
        · rcases h with h | h | rfl
          · exact (hsep.1 x (tsep.2.1 x h)).1
          · exact (hsep.2.1 x h).1
          · exact hb1
        · rcases h2 with h2 | h2 | rfl
          · exact tsep.2.2 x h1 h2
          · exact hsep.2.2 x (tsep.1 x h1) h2
          · exact (hsep.1 x (tsep.1 x h1)).2 rfl
        · exact hloc.elim (fun h => .inr (.inr h.1)) (fun h => .inl h.1)
        · exact hloc.elim (fun h => ⟨cur, ty, by rw [h.1]; exact hh⟩) (fun h => h.2)
        intro w' n' u' S1' hn' hu' hz hr' hd
        have hu1 : UpdC w w' b' o' u' (fun x => T2 x ∨ x = b1) := ⟨fun x hx hne => hu'.1 x (hx.elim .inl (fun h => .inr (.inr h))) hne, hu'.2⟩
        obtain ⟨hN, hL⟩ := hres w' n' u' S1' hn' hu1 hz hr' (fun x h => ⟨fun h2 => hd x h (.inl h2), fun e => hd x h (.inr (.inr e))⟩)
        have hAS2 : Agr w w' S2 := fun x hx => hu'.1 x (.inr (.inl hx)) (fun e => hS2b' (e ▸ hx))
        have hcells : ∀ j, (j < i * k ∨ i * k + k ≤ j) → w'.cell? ⟨b1, j, none⟩ = w.cell? ⟨b1, j, none⟩ := by
          intro j hj
          by_cases e : b1 = b'
          · subst e
            rcases hloc with ⟨_, h1, h2⟩ | ⟨h, _⟩
            · exact hu'.other (by omega)
            · exact absurd rfl (hsep.1 b1 (tsep.2.1 b1 h)).2
          · exact hu'.off (.inr (.inr rfl)) e
        have hb1' : ∃ cur', w'.heap[b1]? = some (.cells cur' ty (0, 0)) ∧ cur'.size = cap * k := by
          by_cases e : b1 = b'
          · subst e
            obtain ⟨_, cur2, ty2, fr2, h1, h2⟩ := hu'
            rw [hh] at h1
            simp only [Option.some.injEq, Obj.cells.injEq] at h1
            obtain ⟨rfl, rfl, rfl⟩ := h1
            exact ⟨_, h2, by simpa using hsz⟩
          · exact ⟨cur, (hu'.1 b1 (.inr (.inr rfl)) e).trans hh, hsz⟩
        have hput : (Root.sv (.sl false k es)).put (i :: q') n' = .sv (.sl false k (es.set i (PV.set q' e n'))) := by simp [Root.put, PV.set, hi]
        rw [hput]
        refine ⟨⟨rfl, ?_⟩, ?_⟩
        · rw [RV_ow]
          obtain ⟨cur', hh', hsz'⟩ := hb1'
          refine .inr ⟨b1, cap, cur', ty, by simp, by simpa using hcap, .inr (.inr (.inr rfl)), hh', hsz', ?_⟩
          refine RE_mono (fun x h => ?_) (hre w' _ _ hAS2 hz (fun j h1 h2 h3 => hcells j (by omega)) hN (fun x h1 h2 => ?_))
          · rcases h with (h | h) | h
            · exact ⟨.inl h, fun e => hd x h (.inr (.inr e))⟩
            · exact ⟨.inr (.inl h), (hsep.1 x (tsep.2.1 x h)).2⟩
            · exact ⟨.inr (.inr (.inl h)), (hsep.2.1 x h).2⟩
          · exact h1.elim (fun h => hd x h (.inr (.inl h2))) (fun h => hsep.2.2 x (tsep.2.1 x h) h2)
        · intro p' x hx he'
          cases p' with
          | nil => simp [rLoc] at hx
          | cons j p =>
            simp only [rLoc] at hx ⊢
            by_cases hji : j = i
            · subst hji
              simp only [hi, Option.bind_some] at hx
              rw [Ext.cons] at he'
              obtain ⟨h1, h2⟩ := hL p x hx he'
              simp only [List.getElem?_set_self hlt, Option.bind_some]
              refine ⟨h1, fun m hm hma hp => h2 m (by simpa [Root.node, PV.get, hi] using hm) hma (fun e => hp (by rw [e]))⟩
            · cases hj : es[j]? with
              | none => simp [hj] at hx
              | some d =>
                simp only [hj, Option.bind_some] at hx
                simp only [List.getElem?_set_ne (Ne.symm hji), hj, Option.bind_some]
                have hRNd := hoth j d hji hj
                have hout : ∀ j', 0 + j * k ≤ j' → j' < 0 + j * k + k → w'.cell? ⟨b1, j', none⟩ = w.cell? ⟨b1, j', none⟩ := by
                  intro j' h1 h2
                  refine hcells j' ?_
                  rcases Nat.lt_or_gt_of_ne hji with h | h
                  · have : j * k + k ≤ i * k := by rw [← Nat.succ_mul]; exact Nat.mul_le_mul_right _ h
                    omega
                  · have : i * k + k ≤ j * k := by rw [← Nat.succ_mul]; exact Nat.mul_le_mul_right _ h
                    omega
                refine ⟨by rw [locate_congr hz p d b1 (0 + j * k) k S2 hRNd hAS2 hout]; exact hx, ?_⟩
                intro m hm hma _
                simp only [Root.node, PV.get, hj, Option.bind_some] at hm
                exact cell_at hz p d b1 (0 + j * k) k S2 m x hRNd hAS2 hout hx hm hma
    | sc _ => simp [PV.isOwn] at hown
    | ag _ => simp [PV.isOwn] at hown
    | xx => simp [PV.isOwn] at hown

theorem rLoc_congr {w w' : World} {Z : Nat → Prop} (hz : Agr w w' Z) {r v} {S : Nat → Prop} (hs : Agr w w' S) (h : RR w Z r v S) (p : List Nat) : rLoc w' r v p = rLoc w r v p := by
  cases r with
  | bx cs =>
    obtain ⟨b, cur, ty, rfl, hb, hh, hsz, hc⟩ := h
    simp only [rLoc]
    exact locate_congr hz p (.ag cs) b 0 cs.length (fun x => S x ∧ x ≠ b) (by rw [RN_ag]; exact ⟨rfl, hc⟩) (fun x h => hs x h.1) (fun _ _ _ => hs.cell hb)
  | sv t =>
    obtain ⟨hown, h⟩ := h
    cases t with
    | sl f k es =>
      simp [PV.isOwn] at hown; subst hown
      rw [RV_ow] at h
      rcases h with ⟨rfl, _⟩ | ⟨b1, cap, cur, ty, rfl, hcap, hb1, hh, hsz, he⟩
      · simp [rLoc]
      · cases p with
        | nil => simp [rLoc]
        | cons i p =>
          simp only [rLoc]
          cases hi : es[i]? with
          | none => rfl
          | some e =>
            obtain ⟨S1, S2, hsep, hRN, _⟩ := RE_get es i e b1 0 k _ hi he
            simp only [Option.bind_some]
            exact locate_congr hz p e b1 (0 + i * k) k S1 hRN (fun x h => hs x (hsep.1 x h).1) (fun _ _ _ => hs.cell hb1)
    | _ => simp [rLoc]
theorem rAt_congr {w w' : World} {Z : Nat → Prop} (hz : Agr w w' Z) {r v} {S : Nat → Prop} (hs : Agr w w' S) (h : RR w Z r v S) {p : List Nat} {m : PV} (hg : r.node.get p = some m) (ha : m.isAg = false) : rAt w' r v p = rAt w r v p := by
  cases r with
  | bx cs =>
    have hl := rLoc_congr hz hs h p
    unfold rAt
    simp only [hl]
    obtain ⟨b, cur, ty, rfl, hb, hh, hsz, hc⟩ := h
    cases hx : rLoc w (.bx cs) (.pointer (some ⟨b, 0, none⟩)) p with
    | none => rfl
    | some x => exact cell_at hz p (.ag cs) b 0 cs.length (fun x => S x ∧ x ≠ b) m x (by rw [RN_ag]; exact ⟨rfl, hc⟩) (fun x h => hs x h.1) (fun _ _ _ => hs.cell hb) hx hg ha
  | sv t =>
    cases p with
    | nil => rfl
    | cons i p =>
      have hl := rLoc_congr hz hs h (i :: p)
      unfold rAt
      simp only [hl]
      obtain ⟨hown, h⟩ := h
      cases t with
      | sl f k es =>
        simp [PV.isOwn] at hown; subst hown
        rw [RV_ow] at h
        rcases h with ⟨rfl, _⟩ | ⟨b1, cap, cur, ty, rfl, hcap, hb1, hh, hsz, he⟩
        · simp [rLoc]
        · simp only [rLoc]
          cases hi : es[i]? with
          | none => rfl
          | some e =>
            obtain ⟨S1, S2, hsep, hRN, _⟩ := RE_get es i e b1 0 k _ hi he
            simp only [Option.bind_some]
            simp only [Root.node, PV.get, hi, Option.bind_some] at hg
            simp only [Nat.zero_add] at hRN ⊢
            cases hx : locate w p e b1 (i * k) with
            | none => rfl
            | some x => exact cell_at hz p e b1 (i * k) k S1 m x hRN (fun x h => hs x (hsep.1 x h).1) (fun _ _ _ => hs.cell hb1) hx hg ha
      | _ => simp [rLoc]
end Go.Eng

namespace Go.Eng

inductive RnK where
  | known (v : Value)
  | sub (lo hi k : Nat)
def rnR : RnK → Value → Value → Prop
  | .known v0, u, _ => u = v0
  | .sub lo hi k, u, v => ∃ A n cap, u = .slice A n cap ∧ n ≤ cap ∧ lo ≤ hi ∧ hi ≤ n ∧ v = .slice (if cap = lo then A else A.map (·.add (lo * k))) (hi - lo) (cap - lo)
inductive V where
  | c (t : PV)
  | nl
  | g (cs : List V)
  | rf (n : Nat) (p : List Nat)
  | pt (n : Nat) (p : List Nat) (o : Nat)
  | fp (cs : List PV) (o : Nat)
  | fn (f : Nat) (caps : List V)
  | tu (cs : List V)
  | rn (n : Nat) (p : List Nat) (s : RnK)
  | dead
  deriving Inhabited

mutual
def VR (w : World) (Z : Nat → Prop) (σ : Nat → Option Root) (rv : Nat → Value) : V → Value → Prop
  | .c t, v => RV w Z t v (fun _ => False)
  | .nl, v => v = .slice none 0 0
  | .g cs, v => ∃ arr : Array Value, v = .agg arr ∧ VRs w Z σ rv cs arr.toList
  | .rf n p, v => ∃ r, σ n = some r ∧ rAt w r (rv n) p = some v ∧ ∃ f k es, r.node.get p = some (.sl f k es)
  | .pt n p o, v => ∃ r b o', σ n = some r ∧ rLoc w r (rv n) p = some (b, o') ∧ v = .pointer (some ⟨b, o' + o, none⟩)
  | .fp cs o, v => ∃ b o', v = .pointer (some ⟨b, o' + o, none⟩) ∧ Z b ∧ RC w Z cs b o' (fun _ => False)
  | .fn f caps, v => ∃ arr : Array Value, v = .func (.func f) #[] arr ∧ VRs w Z σ rv caps arr.toList
  | .tu cs, v => ∃ arr : Array Value, v = .tuple arr ∧ VRs w Z σ rv cs arr.toList
  | .rn n p s, v => ∃ u, (∃ r, σ n = some r ∧ rAt w r (rv n) p = some u ∧ ∃ f k es, r.node.get p = some (.sl f k es)) ∧ rnR s u v
  | .dead, _ => True
def VRs (w : World) (Z : Nat → Prop) (σ : Nat → Option Root) (rv : Nat → Value) : List V → List Value → Prop
  | [], vs => vs = []
  | x :: xs, vs => ∃ v vs', vs = v :: vs' ∧ VR w Z σ rv x v ∧ VRs w Z σ rv xs vs'
end
theorem VR_c {w Z σ rv t v} : VR w Z σ rv (.c t) v = RV w Z t v (fun _ => False) := by rw [VR]
theorem VR_nl {w Z σ rv v} : VR w Z σ rv .nl v = (v = .slice none 0 0) := by rw [VR]
theorem VR_g {w Z σ rv cs v} : VR w Z σ rv (.g cs) v = ∃ arr : Array Value, v = .agg arr ∧ VRs w Z σ rv cs arr.toList := by rw [VR]
theorem VR_tu {w Z σ rv cs v} : VR w Z σ rv (.tu cs) v = ∃ arr : Array Value, v = .tuple arr ∧ VRs w Z σ rv cs arr.toList := by rw [VR]
theorem VR_fn {w Z σ rv f cs v} : VR w Z σ rv (.fn f cs) v = ∃ arr : Array Value, v = .func (.func f) #[] arr ∧ VRs w Z σ rv cs arr.toList := by rw [VR]
theorem VR_rf {w Z σ rv n p v} : VR w Z σ rv (.rf n p) v = ∃ r, σ n = some r ∧ rAt w r (rv n) p = some v ∧ ∃ f k es, r.node.get p = some (.sl f k es) := by rw [VR]
theorem VR_pt {w Z σ rv n p o v} : VR w Z σ rv (.pt n p o) v = ∃ r b o', σ n = some r ∧ rLoc w r (rv n) p = some (b, o') ∧ v = .pointer (some ⟨b, o' + o, none⟩) := by rw [VR]
theorem VR_fp {w Z σ rv cs o v} : VR w Z σ rv (.fp cs o) v = ∃ b o', v = .pointer (some ⟨b, o' + o, none⟩) ∧ Z b ∧ RC w Z cs b o' (fun _ => False) := by rw [VR]
theorem VR_rn {w Z σ rv n p s v} : VR w Z σ rv (.rn n p s) v = ∃ u, VR w Z σ rv (.rf n p) u ∧ rnR s u v := by rw [VR]; simp only [VR_rf]
theorem VR_dead {w Z σ rv v} : VR w Z σ rv .dead v = True := by rw [VR]
theorem VRs_nil {w Z σ rv vs} : VRs w Z σ rv [] vs = (vs = []) := by rw [VRs]
theorem VRs_cons {w Z σ rv x xs vs} : VRs w Z σ rv (x :: xs) vs = ∃ v vs', vs = v :: vs' ∧ VR w Z σ rv x v ∧ VRs w Z σ rv xs vs' := by rw [VRs]

-- V's under a step: what refers to roots must be seen to.
mutual
theorem VR_step {w w' : World} {Z Z' : Nat → Prop} {σ σ' rv rv'} (hz : Agr w w' Z) (hZ : ∀ x, Z x → Z' x) (f : Nat → List Nat → Option (Nat × List Nat)) (g : Nat → List Nat → Option (Nat × List Nat))
    (hf : ∀ n p v, VR w Z σ rv (.rf n p) v → match f n p with | some (m, q) => VR w' Z' σ' rv' (.rf m q) v | none => True)
    (hg : ∀ n p o v, VR w Z σ rv (.pt n p o) v → match g n p with | some (m, q) => VR w' Z' σ' rv' (.pt m q o) v | none => True)
    (map : V → V) (maps : List V → List V)
    (e1 : ∀ t, map (.c t) = .c t) (e2 : map .nl = .nl) (e3 : ∀ cs, map (.g cs) = .g (maps cs)) (e4 : ∀ n p, map (.rf n p) = match f n p with | some (m, q) => .rf m q | none => .dead)
    (e5 : ∀ n p o, map (.pt n p o) = match g n p with | some (m, q) => .pt m q o | none => .dead) (e6 : ∀ cs o, map (.fp cs o) = .fp cs o) (e7 : ∀ f cs, map (.fn f cs) = .fn f (maps cs))
    (e12 : ∀ n p s, map (.rn n p s) = match f n p with | some (m, q) => .rn m q s | none => .dead) (e8 : ∀ cs, map (.tu cs) = .tu (maps cs)) (e9 : map .dead = .dead) (e10 : maps [] = []) (e11 : ∀ x xs, maps (x :: xs) = map x :: maps xs) :
    ∀ (x : V) (v : Value), VR w Z σ rv x v → VR w' Z' σ' rv' (map x) v
  | .c t, v, h => by rw [e1]; rw [VR_c] at *; exact RV_congr hz hZ t v _ _ (fun _ h => h.elim) (fun _ h => h) h
  | .nl, v, h => by rw [e2]; rw [VR_nl] at *; exact h
  | .g cs, v, h => by
    rw [e3]; rw [VR_g] at *
    obtain ⟨arr, rfl, h⟩ := h
    exact ⟨arr, rfl, VRs_step hz hZ f g hf hg map maps e1 e2 e3 e4 e5 e6 e7 e12 e8 e9 e10 e11 cs _ h⟩
  | .rf n p, v, h => by
    rw [e4]
    have := hf n p v h
    revert this
    cases f n p with
    | none => intro _; rw [VR_dead]; trivial
    | some x => exact id
  | .pt n p o, v, h => by
    rw [e5]
    have := hg n p o v h
    revert this
    cases g n p with
    | none => intro _; rw [VR_dead]; trivial
    | some x => exact id
  | .fp cs o, v, h => by
    rw [e6]; rw [VR_fp] at *
    obtain ⟨b, o', rfl, hb, h⟩ := h
    exact ⟨b, o', rfl, hZ b hb, RC_congr hz hZ cs b o' _ _ (fun _ h => h.elim) (fun _ h => h) (fun _ _ _ => hz.cell hb) h⟩
  | .fn f' cs, v, h => by
    rw [e7]; rw [VR_fn] at *
    obtain ⟨arr, rfl, h⟩ := h
    exact ⟨arr, rfl, VRs_step hz hZ f g hf hg map maps e1 e2 e3 e4 e5 e6 e7 e12 e8 e9 e10 e11 cs _ h⟩
  | .tu cs, v, h => by
    rw [e8]; rw [VR_tu] at *
    obtain ⟨arr, rfl, h⟩ := h
    exact ⟨arr, rfl, VRs_step hz hZ f g hf hg map maps e1 e2 e3 e4 e5 e6 e7 e12 e8 e9 e10 e11 cs _ h⟩
  | .rn n p s, v, h => by
    rw [e12]
    rw [VR_rn] at h
    obtain ⟨u, hu, hs⟩ := h
    have := hf n p u hu
    revert this
    cases f n p with
    | none => intro _; rw [VR_dead]; trivial
    | some x => intro hx; show VR w' Z' σ' rv' (.rn x.1 x.2 s) v; rw [VR_rn]; exact ⟨u, hx, hs⟩
  | .dead, v, _ => by rw [e9, VR_dead]; trivial
theorem VRs_step {w w' : World} {Z Z' : Nat → Prop} {σ σ' rv rv'} (hz : Agr w w' Z) (hZ : ∀ x, Z x → Z' x) (f : Nat → List Nat → Option (Nat × List Nat)) (g : Nat → List Nat → Option (Nat × List Nat))
    (hf : ∀ n p v, VR w Z σ rv (.rf n p) v → match f n p with | some (m, q) => VR w' Z' σ' rv' (.rf m q) v | none => True)
    (hg : ∀ n p o v, VR w Z σ rv (.pt n p o) v → match g n p with | some (m, q) => VR w' Z' σ' rv' (.pt m q o) v | none => True)
    (map : V → V) (maps : List V → List V)
    (e1 : ∀ t, map (.c t) = .c t) (e2 : map .nl = .nl) (e3 : ∀ cs, map (.g cs) = .g (maps cs)) (e4 : ∀ n p, map (.rf n p) = match f n p with | some (m, q) => .rf m q | none => .dead)
    (e5 : ∀ n p o, map (.pt n p o) = match g n p with | some (m, q) => .pt m q o | none => .dead) (e6 : ∀ cs o, map (.fp cs o) = .fp cs o) (e7 : ∀ f cs, map (.fn f cs) = .fn f (maps cs))
    (e12 : ∀ n p s, map (.rn n p s) = match f n p with | some (m, q) => .rn m q s | none => .dead) (e8 : ∀ cs, map (.tu cs) = .tu (maps cs)) (e9 : map .dead = .dead) (e10 : maps [] = []) (e11 : ∀ x xs, maps (x :: xs) = map x :: maps xs) :
    ∀ (xs : List V) (vs : List Value), VRs w Z σ rv xs vs → VRs w' Z' σ' rv' (maps xs) vs
  | [], vs, h => by rw [e10]; rw [VRs_nil] at *; exact h
  | x :: xs, vs, h => by
    rw [e11]; rw [VRs_cons] at *
    obtain ⟨v, vs', rfl, h1, h2⟩ := h
    exact ⟨v, vs', rfl, VR_step hz hZ f g hf hg map maps e1 e2 e3 e4 e5 e6 e7 e12 e8 e9 e10 e11 x v h1, VRs_step hz hZ f g hf hg map maps e1 e2 e3 e4 e5 e6 e7 e12 e8 e9 e10 e11 xs vs' h2⟩
end

-- References renamed ('f': slices; 'g': addresses); 'none': they die.
mutual
def V.ren (f g : Nat → List Nat → Option (Nat × List Nat)) : V → V
  | .c t => .c t
  | .nl => .nl
  | .g cs => .g (V.rens f g cs)
  | .rf n p => match f n p with | some (m, q) => .rf m q | none => .dead
  | .pt n p o => match g n p with | some (m, q) => .pt m q o | none => .dead
  | .fp cs o => .fp cs o
  | .fn h cs => .fn h (V.rens f g cs)
  | .tu cs => .tu (V.rens f g cs)
  | .rn n p s => match f n p with | some (m, q) => .rn m q s | none => .dead
  | .dead => .dead
def V.rens (f g : Nat → List Nat → Option (Nat × List Nat)) : List V → List V
  | [] => []
  | x :: xs => x.ren f g :: V.rens f g xs
end
theorem VR_ren {w w' : World} {Z Z' : Nat → Prop} {σ σ' rv rv'} (hz : Agr w w' Z) (hZ : ∀ x, Z x → Z' x) (f g : Nat → List Nat → Option (Nat × List Nat))
    (hf : ∀ n p v, VR w Z σ rv (.rf n p) v → match f n p with | some (m, q) => VR w' Z' σ' rv' (.rf m q) v | none => True)
    (hg : ∀ n p o v, VR w Z σ rv (.pt n p o) v → match g n p with | some (m, q) => VR w' Z' σ' rv' (.pt m q o) v | none => True)
    (x : V) (v : Value) (h : VR w Z σ rv x v) : VR w' Z' σ' rv' (x.ren f g) v :=
  VR_step hz hZ f g hf hg (V.ren f g) (V.rens f g) (fun _ => rfl) rfl (fun _ => rfl) (fun _ _ => rfl) (fun _ _ _ => rfl) (fun _ _ => rfl) (fun _ _ => rfl) (fun _ _ _ => rfl) (fun _ => rfl) rfl rfl (fun _ _ => rfl) x v h
theorem VR_keep {w w' : World} {Z Z' : Nat → Prop} {σ σ' rv rv'} (hz : Agr w w' Z) (hZ : ∀ x, Z x → Z' x)
    (hf : ∀ n p v, VR w Z σ rv (.rf n p) v → VR w' Z' σ' rv' (.rf n p) v)
    (hg : ∀ n p o v, VR w Z σ rv (.pt n p o) v → VR w' Z' σ' rv' (.pt n p o) v)
    (x : V) (v : Value) (h : VR w Z σ rv x v) : VR w' Z' σ' rv' x v :=
  VR_step hz hZ (fun n p => some (n, p)) (fun n p => some (n, p)) hf hg id id (fun _ => rfl) rfl (fun _ => rfl) (fun _ _ => rfl) (fun _ _ _ => rfl) (fun _ _ => rfl) (fun _ _ => rfl) (fun _ _ _ => rfl) (fun _ => rfl) rfl rfl (fun _ _ => rfl) x v h

structure St where
  env : Nat → V
  σ : Nat → Option Root

structure Fr where
  w0 : World
  X : Nat → Prop
  Y : Nat → Prop
  N : Nat
  rv0 : Nat → Option Value
  S0 : Nat → Prop

structure Rel0 (fr : Fr) (S : Nat → Nat → Prop) (rv : Nat → Value) (st : St) (a : Act) (w : World) : Prop where
  os : w.os = fr.w0.os
  tape : TD fr.w0 w
  output : w.output = fr.w0.output
  size : fr.w0.heap.size ≤ w.heap.size
  agr : Agr fr.w0 w fr.Y
  xy : ∀ b, fr.X b → fr.Y b
  xlt : ∀ b, fr.Y b → b < fr.w0.heap.size
  n : a.tmps.size = fr.N
  defers : a.defers = []
  rr : ∀ n r, st.σ n = some r → RR w fr.X r (rv n) (S n)
  sout : ∀ n r b, st.σ n = some r → S n b → b < w.heap.size ∧ ¬ fr.Y b ∧ (fr.S0 b ∨ fr.w0.heap.size ≤ b)
  sdis : ∀ n m r r' b, st.σ n = some r → st.σ m = some r' → n ≠ m → S n b → S m b → False
  rv0 : ∀ n r v, st.σ n = some r → fr.rv0 n = some v → rv n = v
  env : ∀ t, VR w fr.X st.σ rv (st.env t) (a.tmps.getD t undef)
def Rel (fr : Fr) (st : St) (a : Act) (w : World) : Prop := ∃ S rv, Rel0 fr S rv st a w

def GW (P : Program) (w : World) (Z : Nat → Prop) : Prop := ∃ W0 : World, W0.ShapedOpen P ∧ ∀ b, b < W0.heap.size → Z b ∧ w.heap[b]? = W0.heap[b]?
theorem GW.agr {P : Program} {w w' : World} {Z Z' : Nat → Prop} (h : GW P w Z) (hz : ∀ b, Z b → Z' b) (ha : Agr w w' Z) : GW P w' Z' := by
  obtain ⟨W0, h0, h1⟩ := h
  exact ⟨W0, h0, fun b hb => ⟨hz b (h1 b hb).1, (ha b (h1 b hb).1).trans (h1 b hb).2⟩⟩
structure FrOK (P : Program) (N : Nat) (fr : Fr) : Prop where
  gw : GW P fr.w0 fr.X
  n : fr.N = N
  small : N ≤ 10000
  names : ∀ n v, fr.rv0 n = some v → 100000000 ≤ n

def AW (P : Program) (N : Nat) (c : Code) (st : St) (Q : Exit → St → Prop) : Prop :=
  ∀ fr a w, FrOK P N fr → Rel fr st a w → c.wp P (fun e a' w' => ∃ st', Q e st' ∧ Rel fr st' a' w') a w

section
variable {P : Program} {N : Nat} {st : St} {Q : Exit → St → Prop}
theorem AW.mono {c : Code} {Q' : Exit → St → Prop} (h : AW P N c st Q) (hq : ∀ e st, Q e st → Q' e st) : AW P N c st Q' :=
  fun fr a w hN hr => wp_mono (h fr a w hN hr) fun _ _ _ ⟨st', h1, h2⟩ => ⟨st', hq _ _ h1, h2⟩
theorem AW.skip (h : Q .normal st) : AW P N .skip st Q := fun _ _ _ _ hr => wp_skip ⟨st, h, hr⟩
theorem AW.ret (h : Q .ret st) : AW P N .ret st Q := fun _ _ _ _ hr => wp_ret ⟨st, h, hr⟩
theorem AW.exit {id : Nat} (h : Q (.exit id) st) : AW P N (.exit id) st Q := fun _ _ _ _ hr => wp_exit ⟨st, h, hr⟩
def thenQ (next : St → Prop) (Q : Exit → St → Prop) : Exit → St → Prop
  | .normal, st => next st
  | e, st => Q e st
theorem AW.seq {x y : Code} (h : AW P N x st (thenQ (fun st' => AW P N y st' Q) Q)) : AW P N (.seq x y) st Q := by
  intro fr a w hN hr
  refine wp_seq (wp_mono (h fr a w hN hr) ?_)
  rintro e a' w' ⟨st', h1, h2⟩
  cases e <;> first | exact h1 fr a' w' hN h2 | exact ⟨st', h1, h2⟩
def blockQ (id : Nat) (Q : Exit → St → Prop) : Exit → St → Prop
  | .exit id', st => if id' = id then Q .normal st else Q (.exit id') st
  | e, st => Q e st
theorem AW.block {id : Nat} {c : Code} (h : AW P N c st (blockQ id Q)) : AW P N (.block id c) st Q := by
  intro fr a w hN hr
  refine wp_block (wp_mono (h fr a w hN hr) ?_)
  rintro e a' w' ⟨st', h1, h2⟩
  cases e with
  | exit id' =>
    simp only [blockQ] at h1
    simp only [Exit.inBlock]
    split at h1 <;> rename_i hid
    · simp only [hid, if_true]; exact ⟨st', h1, h2⟩
    · simp only [hid, if_false]; exact ⟨st', h1, h2⟩
  | _ => exact ⟨st', h1, h2⟩
theorem AW.loop {c : Code} {α : Type} (I : α → St → Prop) (μ : α → Nat) (x0 : α) (h0 : I x0 st)
    (round : ∀ x st, I x st → AW P N c st (thenQ (fun st' => ∃ x', I x' st' ∧ μ x' < μ x) Q)) : AW P N (.loop c) st Q := by
  intro fr a w hN hr
  have key : ∀ n x st a w, μ x = n → I x st → Rel fr st a w → ∀ b k cs,
      ∃ e a' w', (∃ st', Q e st' ∧ Rel fr st' a' w') ∧ Arrives P (lone (b.at a (.code c :: .inLoop c :: k)) cs w) b k cs e a' w' := by
    intro n
    induction n using Nat.strongRecOn with
    | _ n ih =>
      intro x st a w hn hI hR b k cs
      obtain ⟨e, a₁, w₁, ⟨st₁, hq, hR₁⟩, harr⟩ := round x st hI fr a w hN hR b (.inLoop c :: k) cs
      cases e with
      | normal =>
        obtain ⟨x', hI', hlt⟩ := hq
        obtain ⟨e₂, a₂, w₂, hq₂, harr₂⟩ := ih (μ x') (hn ▸ hlt) x' st₁ a₁ w₁ rfl hI' hR₁ b k cs
        exact ⟨e₂, a₂, w₂, hq₂, .of_steps (Steps.trans harr (.one step_inLoop)) harr₂⟩
      | exit id => exact ⟨_, a₁, w₁, ⟨st₁, hq, hR₁⟩, .pass (x := .inLoop c) rfl (fun _ _ => .inl (by simp)) harr⟩
      | goto l => exact ⟨_, a₁, w₁, ⟨st₁, hq, hR₁⟩, .pass (x := .inLoop c) rfl (fun _ _ => .inl (by simp)) harr⟩
      | ret => exact ⟨_, a₁, w₁, ⟨st₁, hq, hR₁⟩, .pass (x := .inLoop c) rfl (fun _ _ => .inl (by simp)) harr⟩
      | panic ch => exact ⟨_, a₁, w₁, ⟨st₁, hq, hR₁⟩, .pass (x := .inLoop c) rfl (fun _ _ => .inl (by simp)) harr⟩
      | outgrown => exact ⟨_, a₁, w₁, ⟨st₁, hq, hR₁⟩, .pass (x := .inLoop c) rfl (fun _ _ => .inl (by simp)) harr⟩
  intro b k cs
  obtain ⟨e, a', w', hq, harr⟩ := key _ x0 st a w rfl h0 hr b k cs
  exact ⟨e, a', w', hq, .of_steps (.one step_loop) harr⟩
theorem AW.cond {t : Nat} {x y : Code} {b : Bool} (hc : st.env t = .c (.sc (.bool b))) (h : AW P N (if b then x else y) st Q) : AW P N (.cond (.tmp t) x y) st Q := by
  intro fr a w hN hr
  obtain ⟨S, rv, hR⟩ := hr
  have := hR.env t
  rw [hc, VR_c, RV_sc] at this
  exact wp_cond (by simpa [Act.eval] using this) (h fr a w hN ⟨S, rv, hR⟩)
structure Less (st st' : St) : Prop where
  env : ∀ t, st'.env t = st.env t ∨ st'.env t = .dead
  σ : ∀ n r, st'.σ n = some r → st.σ n = some r
  refs : ∀ t, ∀ w Z rv v, VR w Z st.σ rv (st'.env t) v → VR w Z st'.σ rv (st'.env t) v
theorem Rel.less {fr st st' a w} (h : Rel fr st a w) (hl : Less st st') : Rel fr st' a w := by
  obtain ⟨S, rv, h⟩ := h
  refine ⟨S, rv, { h with
    rr := fun n r hn => h.rr n r (hl.σ n r hn)
    sout := fun n r b hn => h.sout n r b (hl.σ n r hn)
    sdis := fun n m r r' b hn hm => h.sdis n m r r' b (hl.σ n r hn) (hl.σ m r' hm)
    rv0 := fun n r v hn => h.rv0 n r v (hl.σ n r hn)
    env := fun t => ?_ }⟩
  refine hl.refs t w fr.X rv _ ?_
  rcases hl.env t with e | e
  · rw [e]; exact h.env t
  · rw [e, VR_dead]; trivial
theorem AW.less {c : Code} {st' : St} (hl : Less st st') (h : AW P N c st' Q) : AW P N c st Q :=
  fun fr a w hN hr => h fr a w hN (hr.less hl)
end
end Go.Eng

namespace Go.Eng

theorem locate_get {w : World} {Z : Nat → Prop} : ∀ (p : List Nat) (t : PV) (b o k : Nat) (S : Nat → Prop) (m : PV), RN w Z t b o k S → t.get p = some m →
    ∃ b' o' k' S', locate w p t b o = some (b', o') ∧ RN w Z m b' o' k' S' ∧ (∀ x, S' x → S x) ∧ (b' = b ∨ S b' ∨ Z b')
  | [], t, b, o, k, S, m, h, hg => by
    simp only [PV.get, Option.some.injEq] at hg; subst hg
    exact ⟨b, o, k, S, rfl, h, fun _ h => h, .inl rfl⟩
  | i :: p, .ag cs, b, o, k, S, m, h, hg => by
    simp only [PV.get] at hg
    cases hi : cs[i]? with
    | none => simp [hi] at hg
    | some c =>
      simp only [hi, Option.bind_some] at hg
      obtain ⟨hk, h⟩ := h
      obtain ⟨S1, S2, hsep, ⟨v, hv, hr⟩, _⟩ := RC_get cs i c b o S hi h
      have hca := RC_cell hi h
      obtain ⟨b', o', k', S', h1, h2, h3, h4⟩ := locate_get p c b (o + i) 1 S1 m (by rw [RN_cell hca]; exact ⟨rfl, v, hv, hr⟩) hg
      exact ⟨b', o', k', S', by simp [locate, hi, h1], h2, fun x h => hsep.1 x (h3 x h), h4.imp id (fun h => h.imp (hsep.1 b') id)⟩
  | i :: p, .sl f k' es, b, o, k, S, m, h, hg => by
    simp only [PV.get] at hg
    rw [RN_cell rfl] at h
    obtain ⟨rfl, v, hv, hr⟩ := h
    cases hi : es[i]? with
    | none => simp [hi] at hg
    | some e =>
      simp only [hi, Option.bind_some] at hg
      have hne : es.length ≠ 0 := by intro h0; simp [List.length_eq_zero_iff.1 h0] at hi
      cases f with
      | true =>
        rw [RV_fz] at hr
        obtain ⟨A, cap, rfl, hcap, hr⟩ := hr
        obtain ⟨b1, o1, rfl, hb1, he⟩ := hr.resolve_left hne
        obtain ⟨S1, S2, hsep, hn, _⟩ := RE_get es i e b1 o1 k' _ hi he
        obtain ⟨b', o', k2, S', h1, h2, h3, h4⟩ := locate_get p e b1 (o1 + i * k') k' S1 m hn hg
        exact ⟨b', o', k2, S', by simp [locate, hv, hi, h1], h2, fun x h => (hsep.1 x (h3 x h)).elim, .inr (h4.elim (fun e => .inr (e ▸ hb1)) (fun h => h.elim (fun h => (hsep.1 _ h).elim) .inr))⟩
      | false =>
        rw [RV_ow] at hr
        obtain ⟨b1, cap, cur, ty, rfl, hcap, hb1, hh, hsz, he⟩ := hr.resolve_left (fun h => hne h.2)
        obtain ⟨S1, S2, hsep, hn, _⟩ := RE_get es i e b1 0 k' _ hi he
        obtain ⟨b', o', k2, S', h1, h2, h3, h4⟩ := locate_get p e b1 (0 + i * k') k' S1 m hn hg
        exact ⟨b', o', k2, S', by simp only [Nat.zero_add] at h1; simp [locate, hv, hi, h1], h2, fun x h => (hsep.1 x (h3 x h)).1, .inr (h4.elim (fun e => .inl (e ▸ hb1)) (fun h => h.imp (fun h => (hsep.1 _ h).1) id))⟩
  | i :: p, .sc _, b, o, k, S, m, h, hg => by simp [PV.get] at hg
  | i :: p, .xx, b, o, k, S, m, h, hg => by simp [PV.get] at hg

theorem locate_snoc {w : World} : ∀ (p : List Nat) (t : PV) (b o b' o' j : Nat) (cs : List PV), t.get p = some (.ag cs) → locate w p t b o = some (b', o') → j < cs.length →
    locate w (p ++ [j]) t b o = some (b', o' + j)
  | [], t, b, o, b', o', j, cs, hg, hl, hj => by
    simp only [PV.get, Option.some.injEq] at hg; subst hg
    simp only [locate, Option.some.injEq, Prod.mk.injEq] at hl
    obtain ⟨rfl, rfl⟩ := hl
    simp [locate, List.getElem?_eq_getElem hj]
  | i :: p, .ag ds, b, o, b', o', j, cs, hg, hl, hj => by
    simp only [PV.get] at hg
    simp only [locate, List.cons_append] at hl ⊢
    cases hi : ds[i]? with
    | none => simp [hi] at hg
    | some d =>
      simp only [hi, Option.bind_some] at hg hl ⊢
      exact locate_snoc p d b (o + i) b' o' j cs hg hl hj
  | i :: p, .sl f k es, b, o, b', o', j, cs, hg, hl, hj => by
    simp only [PV.get] at hg
    simp only [locate, List.cons_append] at hl ⊢
    cases hi : es[i]? with
    | none => simp [hi] at hg
    | some d =>
      simp only [hi, Option.bind_some] at hg hl ⊢
      split at hl
      · exact locate_snoc p d _ _ b' o' j cs hg hl hj
      · cases hl
  | i :: p, .sc _, b, o, b', o', j, cs, hg, hl, hj => by simp [PV.get] at hg
  | i :: p, .xx, b, o, b', o', j, cs, hg, hl, hj => by simp [PV.get] at hg
theorem locate_snoc_sl {w : World} : ∀ (p : List Nat) (t : PV) (b o b' o' j : Nat) (f : Bool) (k : Nat) (es : List PV) (A : Addr) (n cap : Nat), t.get p = some (.sl f k es) → locate w p t b o = some (b', o') →
    w.cell? ⟨b', o', none⟩ = some (.slice (some A) n cap) → j < es.length → locate w (p ++ [j]) t b o = some (A.block, A.off + j * k)
  | [], t, b, o, b', o', j, f, k, es, A, n, cap, hg, hl, hc, hj => by
    simp only [PV.get, Option.some.injEq] at hg; subst hg
    simp only [locate, Option.some.injEq, Prod.mk.injEq] at hl
    obtain ⟨rfl, rfl⟩ := hl
    simp [locate, hc, List.getElem?_eq_getElem hj]
  | i :: p, .ag ds, b, o, b', o', j, f, k, es, A, n, cap, hg, hl, hc, hj => by
    simp only [PV.get] at hg
    simp only [locate, List.cons_append] at hl ⊢
    cases hi : ds[i]? with
    | none => simp [hi] at hg
    | some d =>
      simp only [hi, Option.bind_some] at hg hl ⊢
      exact locate_snoc_sl p d b (o + i) b' o' j f k es A n cap hg hl hc hj
  | i :: p, .sl f' k' es', b, o, b', o', j, f, k, es, A, n, cap, hg, hl, hc, hj => by
    simp only [PV.get] at hg
    simp only [locate, List.cons_append] at hl ⊢
    cases hi : es'[i]? with
    | none => simp [hi] at hg
    | some d =>
      simp only [hi, Option.bind_some] at hg hl ⊢
      split at hl
      · exact locate_snoc_sl p d _ _ b' o' j f k es A n cap hg hl hc hj
      · cases hl
  | i :: p, .sc _, b, o, b', o', j, f, k, es, A, n, cap, hg, hl, hc, hj => by simp [PV.get] at hg
  | i :: p, .xx, b, o, b', o', j, f, k, es, A, n, cap, hg, hl, hc, hj => by simp [PV.get] at hg

theorem rLoc_get {w : World} {Z : Nat → Prop} {r : Root} {v : Value} {S : Nat → Prop} {p : List Nat} {m : PV} (h : RR w Z r v S) (hg : r.node.get p = some m) (hp : p ≠ [] ∨ ∃ cs, r = .bx cs) :
    ∃ b o k S', rLoc w r v p = some (b, o) ∧ RN w Z m b o k S' ∧ (∀ x, S' x → S x) ∧ (S b ∨ Z b) := by
  cases r with
  | bx cs =>
    obtain ⟨b, cur, ty, rfl, hb, hh, hsz, hc⟩ := h
    obtain ⟨b', o', k', S', h1, h2, h3, h4⟩ := locate_get p (.ag cs) b 0 cs.length (fun x => S x ∧ x ≠ b) m (by rw [RN_ag]; exact ⟨rfl, hc⟩) hg
    exact ⟨b', o', k', S', h1, h2, fun x h => (h3 x h).1, h4.elim (fun e => .inl (e ▸ hb)) (fun h => h.imp (fun h => h.1) id)⟩
  | sv t =>
    have hp' : p ≠ [] := hp.elim id (fun ⟨_, h⟩ => by cases h)
    obtain ⟨hown, h⟩ := h
    cases t with
    | sl f k es =>
      simp [PV.isOwn] at hown; subst hown
      obtain ⟨i, q', rfl⟩ : ∃ i q', p = i :: q' := by cases p with | nil => exact absurd rfl hp' | cons i q' => exact ⟨i, q', rfl⟩
      simp only [Root.node, PV.get] at hg
      cases hi : es[i]? with
      | none => simp [hi] at hg
      | some e =>
        simp only [hi, Option.bind_some] at hg
        have hlt : i < es.length := by rcases Nat.lt_or_ge i es.length with h | h; exact h; simp [List.getElem?_eq_none h] at hi
        rw [RV_ow] at h
        obtain ⟨b1, cap, cur, ty, rfl, hcap, hb1, hh, hsz, he⟩ := h.resolve_left (fun h => by omega)
        obtain ⟨S1, S2, hsep, hRN, _⟩ := RE_get es i e b1 0 k _ hi he
        obtain ⟨b', o', k', S', h1, h2, h3, h4⟩ := locate_get q' e b1 (0 + i * k) k S1 m hRN hg
        exact ⟨b', o', k', S', by simp only [Nat.zero_add] at h1; simp [rLoc, hi, h1], h2, fun x h => (hsep.1 x (h3 x h)).1, h4.elim (fun e => .inl (e ▸ hb1)) (fun h => h.imp (fun h => (hsep.1 _ h).1) id)⟩
    | sc _ => simp [PV.isOwn] at hown
    | ag _ => simp [PV.isOwn] at hown
    | xx => simp [PV.isOwn] at hown
theorem rLoc_snoc {w : World} {r : Root} {v : Value} {p : List Nat} {cs : List PV} {b o j : Nat} (hg : r.node.get p = some (.ag cs)) (hl : rLoc w r v p = some (b, o)) (hj : j < cs.length) :
    rLoc w r v (p ++ [j]) = some (b, o + j) := by
  cases r with
  | bx ds =>
    cases v with
    | pointer a =>
      cases a with
      | none => simp [rLoc] at hl
      | some a => exact locate_snoc p (.ag ds) _ _ b o j cs hg hl hj
    | _ => simp [rLoc] at hl
  | sv t =>
    cases t with
    | sl f k es =>
      cases v with
      | slice A n cap =>
        cases A with
        | none => simp [rLoc] at hl
        | some A =>
          cases p with
          | nil => simp [rLoc] at hl
          | cons i p =>
            simp only [rLoc, List.cons_append] at hl ⊢
            simp only [Root.node, PV.get] at hg
            cases hi : es[i]? with
            | none => simp [hi] at hg
            | some e =>
              simp only [hi, Option.bind_some] at hg hl ⊢
              exact locate_snoc p e _ _ b o j cs hg hl hj
      | _ => simp [rLoc] at hl
    | _ => simp [rLoc] at hl
theorem rLoc_snoc_sl {w : World} {r : Root} {v : Value} {p : List Nat} {f : Bool} {k : Nat} {es : List PV} {j : Nat} {A : Addr} {n cap : Nat} (hg : r.node.get p = some (.sl f k es))
    (hv : rAt w r v p = some (.slice (some A) n cap)) (hj : j < es.length) : rLoc w r v (p ++ [j]) = some (A.block, A.off + j * k) := by
  cases r with
  | bx ds =>
    simp only [rAt] at hv
    cases v with
    | pointer a =>
      cases a with
      | none => simp [rLoc] at hv
      | some a =>
        simp only [rLoc] at hv ⊢
        cases hl : locate w p (.ag ds) a.block a.off with
        | none => simp [hl] at hv
        | some x =>
          simp only [hl, Option.bind_some] at hv
          exact locate_snoc_sl p (.ag ds) _ _ x.1 x.2 j f k es A n cap hg hl hv hj
    | _ => simp [rLoc] at hv
  | sv t =>
    cases p with
    | nil =>
      simp only [rAt, Option.some.injEq] at hv; subst hv
      simp only [Root.node, PV.get, Option.some.injEq] at hg; subst hg
      simp [rLoc, List.getElem?_eq_getElem hj, locate]
    | cons i p =>
      simp only [rAt] at hv
      cases t with
      | sl f' k' es' =>
        cases v with
        | slice A' n' cap' =>
          cases A' with
          | none => simp [rLoc] at hv
          | some A' =>
            simp only [rLoc, List.cons_append] at hv ⊢
            simp only [Root.node, PV.get] at hg
            cases hi : es'[i]? with
            | none => simp [hi] at hg
            | some e =>
              simp only [hi, Option.bind_some] at hg hv ⊢
              cases hl : locate w p e A'.block (A'.off + i * k') with
              | none => simp [hl] at hv
              | some x =>
                simp only [hl, Option.bind_some] at hv
                exact locate_snoc_sl p e _ _ x.1 x.2 j f k es A n cap hg hl hv hj
        | _ => simp [rLoc] at hv
      | _ => simp [rLoc] at hv

def view (n : Nat) (p : List Nat) : PV → V
  | .sc v => .c (.sc v)
  | .sl true k es => .c (.sl true k es)
  | .sl false _ _ => .rf n p
  | _ => .dead
def views (n : Nat) (p : List Nat) : Nat → List PV → List V
  | _, [] => []
  | j, c :: cs => view n (p ++ [j]) c :: views n p (j + 1) cs

theorem VR_view {w : World} {Z : Nat → Prop} {σ rv n p c v} {r : Root} {S} (hσ : σ n = some r) (hg : r.node.get p = some c) (hat : rAt w r (rv n) p = some v) (hr : RV w Z c v S) : VR w Z σ rv (view n p c) v := by
  cases c with
  | sc x => rw [RV_sc] at hr; simp only [view]; rw [VR_c, RV_sc]; exact hr
  | sl f k es =>
    cases f with
    | true => simp only [view]; rw [VR_c]; rw [RV_fz] at *; exact hr
    | false => simp only [view]; rw [VR_rf]; exact ⟨r, hσ, hat, _, _, _, hg⟩
  | ag cs => simp only [view]; rw [VR_dead]; trivial
  | xx => simp only [view]; rw [VR_dead]; trivial
end Go.Eng

set_option linter.unusedSimpArgs false
set_option linter.unusedVariables false
namespace Go.Eng
open Go.RowKit

inductive TK where
  | int (k : IntKind)
  | bool
  | str
  | sl (e k bytes : Nat)
  | st (fs : List (Nat × Nat × Bool))
  | oth
inductive EK where
  | int
  | bool
  | str
  deriving BEq, DecidableEq
structure TI where
  kd : TK
  size : Nat
  agg : Bool
  zero : List PV
  eq : List EK
def EKok : EK → TypeDesc → Bool
  | .int, .int _ => true
  | .bool, .bool => true
  | .str, .string => true
  | _, _ => false
structure EqT (P : Program) (t : Nat) (ks : List EK) : Prop where
  und : P.underlying t = some (.struct (P.fieldsOf t))
  held : P.stoodInHeld t = false
  guard : P.eqGuardType P.depth t = false
  len : (P.fieldsOf t).size = ks.length
  flds : ∀ (j : Nat) (f : Field) (k : EK), (P.fieldsOf t)[j]? = some f → ks[j]? = some k → f.name ≠ "_" ∧ f.offset = j ∧ ∃ d, P.underlying f.type = some d ∧ EKok k d = true

def zval : PV → Value
  | .sc v => v
  | _ => .slice none 0 0
def zok : PV → Bool
  | .sc v => v.oneCell'
  | .sl f _ [] => !f
  | _ => false
def KDok (P : Program) (d : TypeDesc) : TK → Prop
  | .int k => d = .int k
  | .bool => d = .bool
  | .str => d = .string
  | .sl e k b => d = .slice e ∧ ∃ ie, P.info? e = some ie ∧ ie.size = k ∧ ie.bytes = b
  | .st fs => ∃ fields : Array Field, d = .struct fields ∧ fields.toList.mapM (fun f => (P.info? f.type).map fun i => (f.offset, i.size)) = some (fs.map fun q => (q.1, q.2.1)) ∧ ∀ (i : Nat) (q : Nat × Nat × Bool), fs[i]? = some q → ∃ f : Field, fields[i]? = some f ∧ f.offset = q.1 ∧ (∃ fi, P.info? f.type = some fi ∧ fi.size = q.2.1) ∧
      ∃ fd, P.underlying f.type = some fd ∧ (match fd with | .struct _ | .array _ _ => true | _ => false) = q.2.2
  | .oth => True
structure TIok (P : Program) (t : Nat) (i : TI) : Prop where
  len : i.zero.length = i.size
  inf : ∃ inf z, P.info? t = some inf ∧ inf.size = i.size ∧ inf.zero = some z ∧ z.cells.toList = i.zero.map zval ∧ (∀ c ∈ i.zero, zok c = true) ∧ (i.agg = true → ∃ cs, z = .agg cs) ∧ (i.agg = false → z.cells = #[z])
  und : ∃ d, P.underlying t = some d ∧ (match d with | .struct _ | .array _ _ => true | _ => false) = i.agg ∧ KDok P d i.kd
  eqs : i.eq ≠ [] → EqT P t i.eq
def TOK (P : Program) (T : Nat → Option TI) : Prop := ∀ t i, T t = some i → TIok P t i

def constC : Value → V
  | .slice none 0 0 => .nl
  | v => .c (.sc v)
def constV : Value → V
  | .slice none 0 0 => .nl
  | .agg cs => .g (cs.toList.map constC)
  | v => .c (.sc v)
def evalO (st : St) : Operand → V
  | .tmp t => st.env t
  | .const v => constV v
  | .func f => .fn f []
  | .global _ => .dead

theorem VR_constC {w Z σ rv v} : VR w Z σ rv (constC v) v := by
  unfold constC
  split
  · rw [VR_nl]
  · rw [VR_c, RV_sc]
theorem VRs_constC {w Z σ rv} : ∀ vs, VRs w Z σ rv (vs.map constC) vs
  | [] => by simp [VRs_nil]
  | v :: vs => by rw [List.map_cons, VRs_cons]; exact ⟨v, vs, rfl, VR_constC, VRs_constC vs⟩
theorem VR_constV {w Z σ rv v} : VR w Z σ rv (constV v) v := by
  unfold constV
  split
  · rw [VR_nl]
  · rw [VR_g]; exact ⟨_, rfl, VRs_constC _⟩
  · rw [VR_c, RV_sc]
theorem evalO_ok {fr S rv st a w} (h : Rel0 fr S rv st a w) (x : Operand) : VR w fr.X st.σ rv (evalO st x) (a.eval x) := by
  cases x with
  | tmp t => exact h.env t
  | const v => exact VR_constV
  | func f => simp only [evalO, Act.eval]; rw [VR_fn]; exact ⟨#[], rfl, by rw [VRs_nil]⟩
  | global g => simp only [evalO]; rw [VR_dead]; trivial

theorem i64_wrap (n : Int) : IntKind.i64.wrap n = wrap64 n := by
  have e : IntKind.i64.wrap n = if (2 ^ 63 : Int) ≤ n % 2 ^ 64 then n % 2 ^ 64 - 2 ^ 64 else n % 2 ^ 64 := by
    simp [IntKind.wrap, IntKind.signed, IntKind.bits]
  rw [e]; unfold wrap64
  split <;> omega
theorem beq_dec (a b : List UInt8) : (a == b) = decide (a = b) := by
  by_cases h : a = b <;> simp [h]
def wrapK (k : IntKind) (n : Int) : Int :=
  match k with
  | .i64 => wrap64 n
  | k => k.wrap n
theorem wrapK_eq (k : IntKind) (n : Int) : k.wrap n = wrapK k n := by cases k <;> simp [wrapK, i64_wrap]

def binS (op : BinOp) (x y : Value) : Option Value :=
  match x, y with
  | .int k a, .int k' b =>
    match op with
    | .shl => if b < 0 then none else some (.int k (wrapK k (a * 2 ^ (min b.toNat k.bits))))
    | .shr => if b < 0 then none else some (.int k (a.fdiv (2 ^ (min b.toNat k.bits))))
    | op =>
      if k = k' then
        match op with
        | .add => some (.int k (wrapK k (a + b)))
        | .sub => some (.int k (wrapK k (a - b)))
        | .mul => some (.int k (wrapK k (a * b)))
        | .quo => if b = 0 then none else some (.int k (wrapK k (a.tdiv b)))
        | .rem => if b = 0 then none else some (.int k (a.tmod b))
        | .and => some (.int k (wrapK k (BitVec.ofInt k.bits a &&& BitVec.ofInt k.bits b).toNat))
        | .or => some (.int k (wrapK k (BitVec.ofInt k.bits a ||| BitVec.ofInt k.bits b).toNat))
        | .xor => some (.int k (wrapK k (BitVec.ofInt k.bits a ^^^ BitVec.ofInt k.bits b).toNat))
        | .andNot => some (.int k (wrapK k (BitVec.ofInt k.bits a &&& ~~~BitVec.ofInt k.bits b).toNat))
        | .eql => some (.bool (decide (a = b)))
        | .neq => some (.bool (!decide (a = b)))
        | .lss => some (.bool (decide (a < b)))
        | .leq => some (.bool (decide (a ≤ b)))
        | .gtr => some (.bool (decide (b < a)))
        | .geq => some (.bool (decide (b ≤ a)))
        | _ => none
      else none
  | .string a, .string b =>
    match op with
    | .add => if a.size + b.size ≤ 9223372036854775807 then some (.string (a ++ b)) else none
    | .eql => some (.bool (decide (a.toList = b.toList)))
    | .neq => some (.bool (!decide (a.toList = b.toList)))
    | .lss => some (.bool (Op.bytesLess a.toList b.toList))
    | .leq => some (.bool (Op.bytesLess a.toList b.toList || decide (a.toList = b.toList)))
    | .gtr => some (.bool (!(Op.bytesLess a.toList b.toList || decide (a.toList = b.toList))))
    | .geq => some (.bool (!Op.bytesLess a.toList b.toList))
    | _ => none
  | _, _ => none
theorem binS_ok {P : Program} {op x y z} (h : binS op x y = some z) (t : TypeId) (w : World) : (Go.binOp op t x y).run P w = .ok z w := by
  unfold binS at h
  split at h
  · rename_i k a k' b
    split at h
    · split at h
      · cases h
      · rename_i hb; cases h; simp [Go.binOp, Op.shift, hb, wrapK_eq]
    · split at h
      · cases h
      · rename_i hb; cases h; simp [Go.binOp, Op.shift, hb]
    · split at h
      · rename_i hk; subst hk
        split at h <;> first
          | (split at h
             · cases h
             · rename_i hb; cases h; simp [Go.binOp, Op.intDiv, hb, wrapK_eq])
          | (cases h; simp [Go.binOp, Op.intArith, Op.intDiv, Op.intBits, Op.intCmp, wrapK_eq, bne]; done)
          | (cases h; simp [Go.binOp, Op.intArith, Op.intDiv, Op.intBits, Op.intCmp, wrapK_eq, bne]; rfl)
          | cases h
      · cases h
  · rename_i a b
    cases op <;> simp only [] at h <;> first
      | (cases h; done)
      | (cases h; simp [Go.binOp, Op.stringOp, beq_dec]; done)
      | skip
    · split at h
      · rename_i hs
        cases h
        have h63 : ¬ (((a.size + b.size : Nat) : Int) > IntKind.i64.max) := by simp [IntKind.max, IntKind.signed, IntKind.bits]; omega
        simp only [Go.binOp, Op.stringOp, if_neg h63, Sem.run_pure]
      · cases h
  · cases h
def scEqB : EK → Value → Value → Option Bool
  | .int, .int k a, .int k' b => if k = k' then some (decide (a = b)) else none
  | .bool, .bool a, .bool b => some (a == b)
  | .str, .string a, .string b => some (decide (a.toList = b.toList))
  | _, _, _ => none
def eqVs : List EK → List Value → List Value → Option Bool
  | [], [], [] => some true
  | k :: ks, a :: as, b :: bs => (scEqB k a b).bind fun r => (eqVs ks as bs).map fun q => r && q
  | _, _, _ => none
theorem scEqB_ok {P : Program} {k : EK} {a b : Value} {r : Bool} (h : scEqB k a b = some r) {d : TypeDesc} {t : Nat} (hd : P.underlying t = some d) (hk : EKok k d = true) (n : Nat) (w : World) : (Op.equalIn (n + 1) t a b).run P w = .ok r w ∧ (isAgg t).run P w = .ok false w := by
  unfold scEqB at h
  split at h
  · rename_i k a k' b
    split at h
    · rename_i hkk; subst hkk; cases h
      cases d <;> simp [EKok] at hk
      exact ⟨by rw [run_equalIn_int w n t _ _ _ _ hd]; rfl, by simp [isAgg, run_underlying hd]⟩
    · cases h
  · cases h
    cases d <;> simp [EKok] at hk
    exact ⟨run_equalIn_bool' w n t _ _ hd, by simp [isAgg, run_underlying hd]⟩
  · cases h
    cases d <;> simp [EKok] at hk
    exact ⟨by rw [run_equalIn_string w n t _ _ hd, beq_dec], by simp [isAgg, run_underlying hd]⟩
  · cases h
theorem eqVs_ok {P : Program} (w : World) (n : Nat) (xs ys : Array Value) : ∀ (ks : List EK) (fs : List Field) (o : Nat) (as bs : List Value) (r : Bool), fs.length = ks.length → (∀ (j : Nat) (f : Field) (k : EK), fs[j]? = some f → ks[j]? = some k → f.name ≠ "_" ∧ f.offset = o + j ∧ ∃ d, P.underlying f.type = some d ∧ EKok k d = true) →
    (∀ (j : Nat) v, as[j]? = some v → xs[o + j]? = some v) → (∀ (j : Nat) v, bs[j]? = some v → ys[o + j]? = some v) → eqVs ks as bs = some r → (Op.eqFields (n + 1) xs ys fs).run P w = .ok r w
  | [], [], o, as, bs, r, _, _, _, _, h => by
    unfold eqVs at h
    split at h
    · cases h; simp [Op.eqFields]
    · contradiction
    · cases h
  | [], _ :: _, _, _, _, _, hl, _, _, _, _ => by simp at hl
  | _ :: _, [], _, _, _, _, hl, _, _, _, _ => by simp at hl
  | k :: ks, f :: fs, o, as, bs, r, hl, hf, ha, hb, h => by
    cases as with
    | nil => simp [eqVs] at h
    | cons a as => cases bs with
      | nil => simp [eqVs] at h
      | cons b bs =>
        simp only [eqVs, Option.bind_eq_some_iff, Option.map_eq_some_iff] at h
        obtain ⟨r1, h1, r2, h2, rfl⟩ := h
        obtain ⟨f1, f2, d, hd, hk⟩ := hf 0 f k rfl rfl
        obtain ⟨e1, e2⟩ := scEqB_ok h1 hd hk n w
        have ih := eqVs_ok w n xs ys ks fs (o + 1) as bs r2 (by simpa using hl) (fun j f k h3 h4 => by
          obtain ⟨g1, g2, g3⟩ := hf (j + 1) f k (by simpa using h3) (by simpa using h4)
          exact ⟨g1, by omega, g3⟩) (fun j v hv => by have := ha (j + 1) v (by simpa using hv); rwa [show o + 1 + j = o + (j + 1) by omega]) (fun j v hv => by have := hb (j + 1) v (by simpa using hv); rwa [show o + 1 + j = o + (j + 1) by omega]) h2
        have hxa : xs[f.offset]? = some a := by rw [f2]; exact ha 0 a rfl
        have hyb : ys[f.offset]? = some b := by rw [f2]; exact hb 0 b rfl
        simp only [Op.eqFields, f1, ne_eq, not_false_eq_true, if_true, Sem.run_bind, part, e2, Result.andThen_ok, Bool.false_eq_true, if_false, hxa, hyb, Sem.run_pure, e1]
        cases r1
        · simp
        · simp only [Bool.not_true, Bool.false_eq_true, if_false, Bool.true_and]; exact ih
end Go.Eng

set_option linter.unusedSimpArgs false
set_option linter.unusedVariables false
namespace Go.Eng
open Go.RowKit

variable {P : Program} {T : Nat → Option TI}

theorem run_isAgg {t i} (h : TIok P t i) (w : World) : (isAgg t).run P w = .ok i.agg w := by
  obtain ⟨d, h1, h2, _⟩ := h.und
  simp only [isAgg, underlying, Sem.run_bind, run_program, Result.andThen_ok, h1]
  cases d <;> simp_all
theorem run_sizeOf {t i} (h : TIok P t i) (w : World) : (sizeOf t).run P w = .ok i.size w := by
  obtain ⟨inf, z, h1, h2, _⟩ := h.inf
  simp only [sizeOf, typeInfo, Sem.run_bind, run_program, Result.andThen_ok, h1, Sem.run_pure, h2]
theorem run_underlying {t d} (h : P.underlying t = some d) (w : World) : (underlying t).run P w = .ok d w := by
  simp [underlying, h]

def loadV (agg : Bool) (sz : Nat) (st : St) : V → Option V
  | .pt n p o => (st.σ n).bind fun r => (r.node.get p).bind fun node =>
      match node with
      | .ag cs => if agg then (if o + sz ≤ cs.length then some (.g (views n p o ((cs.drop o).take sz))) else none) else (cs[o]?).map (view n (p ++ [o]))
      | e => if agg then none else if o = 0 then some (view n p e) else none
  | .fp cs o => if agg then (if o + sz ≤ cs.length then some (.g (((cs.drop o).take sz).map .c)) else none) else (cs[o]?).map .c
  | _ => none

theorem rAt_of_rLoc {w : World} {r v p x} (h : rLoc w r v p = some x) : rAt w r v p = w.cell? ⟨x.1, x.2, none⟩ := by
  cases r with
  | bx cs => simp [rAt, h]
  | sv t =>
    cases p with
    | nil => cases t <;> cases v <;> simp [rLoc] at h
    | cons i p => simp [rAt, h]
theorem rLoc_ne {w : World} {r v p x} (h : rLoc w r v p = some x) : p ≠ [] ∨ ∃ cs, r = .bx cs := by
  cases r with
  | bx cs => exact .inr ⟨cs, rfl⟩
  | sv t =>
    cases p with
    | nil => cases t <;> cases v <;> simp [rLoc] at h
    | cons i p => exact .inl (by simp)

theorem RC_at {w Z cs b o S} {j : Nat} {c : PV} (h : RC w Z cs b o S) (hj : cs[j]? = some c) : ∃ v, w.cell? ⟨b, o + j, none⟩ = some v ∧ RV w Z c v S := by
  obtain ⟨S1, S2, hsep, ⟨v, hv, hr⟩, _⟩ := RC_get cs j c b o S hj h
  exact ⟨v, hv, RV_mono hsep.1 hr⟩

theorem VRs_views {w : World} {Z : Nat → Prop} {σ rv n r S} {p : List Nat} {b o' : Nat} {all : List PV} (hσ : σ n = some r) (hg : r.node.get p = some (.ag all)) (hl : rLoc w r (rv n) p = some (b, o')) (hc : RC w Z all b o' S) :
    ∀ (cs : List PV) (o : Nat), (∀ j c, cs[j]? = some c → all[o + j]? = some c) → ∃ vs : List Value, vs.length = cs.length ∧ (∀ j v, vs[j]? = some v → w.cell? ⟨b, o' + o + j, none⟩ = some v) ∧ VRs w Z σ rv (views n p o cs) vs
  | [], o, _ => ⟨[], rfl, by simp, by simp [views, VRs_nil]⟩
  | c :: cs, o, h => by
    obtain ⟨vs, hlen, hv, hr⟩ := VRs_views hσ hg hl hc cs (o + 1) (fun j c' hj => by have := h (j + 1) c' (by simpa using hj); rwa [show o + (j + 1) = o + 1 + j by omega] at this)
    have h0 := h 0 c (by simp)
    obtain ⟨v, hv0, hr0⟩ := RC_at hc h0
    refine ⟨v :: vs, by simp [hlen], ?_, ?_⟩
    · intro j u hj
      cases j with
      | zero => simp at hj; subst hj; simpa [Nat.add_assoc] using hv0
      | succ j => simp at hj; have := hv j u hj; rwa [show o' + o + (j + 1) = o' + (o + 1) + j by omega]
    · simp only [views]
      rw [VRs_cons]
      refine ⟨v, vs, rfl, ?_, hr⟩
      have hlt : o < all.length := by rcases Nat.lt_or_ge o all.length with h | h; exact h; simp [List.getElem?_eq_none h] at h0
      have hl' := rLoc_snoc hg hl hlt
      refine VR_view hσ ?_ ((rAt_of_rLoc hl').trans hv0) hr0
      exact get_snoc p r.node all o c hg (by simpa using h0)
where
  get_snoc : ∀ (p : List Nat) (t : PV) (cs : List PV) (j : Nat) (c : PV), t.get p = some (.ag cs) → cs[j]? = some c → t.get (p ++ [j]) = some c
    | [], t, cs, j, c, hg, hj => by simp only [PV.get, Option.some.injEq] at hg; subst hg; simp [PV.get, hj]
    | i :: p, .ag ds, cs, j, c, hg, hj => by
      simp only [PV.get, List.cons_append] at hg ⊢
      cases hi : ds[i]? with
      | none => simp [hi] at hg
      | some d => simp only [hi, Option.bind_some] at hg ⊢; exact get_snoc p d cs j c hg hj
    | i :: p, .sl f k ds, cs, j, c, hg, hj => by
      simp only [PV.get, List.cons_append] at hg ⊢
      cases hi : ds[i]? with
      | none => simp [hi] at hg
      | some d => simp only [hi, Option.bind_some] at hg ⊢; exact get_snoc p d cs j c hg hj
    | i :: p, .sc _, cs, j, c, hg, hj => by simp [PV.get] at hg
    | i :: p, .xx, cs, j, c, hg, hj => by simp [PV.get] at hg
theorem VRs_cells {w : World} {Z : Nat → Prop} {σ rv} {b o' : Nat} {all : List PV} (hc : RC w Z all b o' (fun _ => False)) :
    ∀ (cs : List PV) (o : Nat), (∀ j c, cs[j]? = some c → all[o + j]? = some c) → ∃ vs : List Value, vs.length = cs.length ∧ (∀ j v, vs[j]? = some v → w.cell? ⟨b, o' + o + j, none⟩ = some v) ∧ VRs w Z σ rv (cs.map .c) vs
  | [], o, _ => ⟨[], rfl, by simp, by simp [VRs_nil]⟩
  | c :: cs, o, h => by
    obtain ⟨vs, hlen, hv, hr⟩ := VRs_cells hc cs (o + 1) (fun j c' hj => by have := h (j + 1) c' (by simpa using hj); rwa [show o + (j + 1) = o + 1 + j by omega] at this)
    have h0 := h 0 c (by simp)
    obtain ⟨v, hv0, hr0⟩ := RC_at hc h0
    refine ⟨v :: vs, by simp [hlen], ?_, ?_⟩
    · intro j u hj
      cases j with
      | zero => simp at hj; subst hj; simpa [Nat.add_assoc] using hv0
      | succ j => simp at hj; have := hv j u hj; rwa [show o' + o + (j + 1) = o' + (o + 1) + j by omega]
    · rw [List.map_cons, VRs_cons]
      exact ⟨v, vs, rfl, by rw [VR_c]; exact hr0, hr⟩

theorem add_none (b o n : Nat) : (⟨b, o, none⟩ : Addr).add n = ⟨b, o + n, none⟩ := by
  unfold Addr.add; split <;> simp_all

theorem run_loadCells_at {w : World} {b o n : Nat} {vs : List Value} (hn : vs.length = n) (h : ∀ j v, vs[j]? = some v → w.cell? ⟨b, o + j, none⟩ = some v) : (loadCells ⟨b, o, none⟩ n).run P w = .ok vs.toArray w := by
  subst hn
  exact run_loadCells_list w ⟨b, o, none⟩ vs (fun j v hj => by rw [add_none]; exact h j v hj)

def ExtW (w w' : World) : Prop := w.heap.size ≤ w'.heap.size ∧ ∀ b, b < w.heap.size → w'.heap[b]? = w.heap[b]?
theorem ExtW.refl (w : World) : ExtW w w := ⟨Nat.le_refl _, fun _ _ => rfl⟩
theorem ExtW.trans {w w' w'' : World} (h : ExtW w w') (h' : ExtW w' w'') : ExtW w w'' := ⟨Nat.le_trans h.1 h'.1, fun b hb => (h'.2 b (Nat.lt_of_lt_of_le hb h.1)).trans (h.2 b hb)⟩
theorem cell_lt {w : World} {p : Addr} {v : Value} (h : w.cell? p = some v) : p.block < w.heap.size := by
  rcases Nat.lt_or_ge p.block w.heap.size with hh | hh
  · exact hh
  · exfalso
    unfold World.cell? at h
    simp [Array.getElem?_eq_none hh] at h
theorem cell_ext {w w' : World} (hw : ExtW w w') {p : Addr} {v : Value} (h : w.cell? p = some v) : w'.cell? p = some v :=
  (World.cell?_of_block (w := w) (hw.2 p.block (cell_lt h))).trans h

theorem load_ok {fr S rv st a w} (h : Rel0 fr S rv st a w) {t i x v y} (ht : TIok P t i) (hx : VR w fr.X st.σ rv x v) (hl : loadV i.agg i.size st x = some y) :
    ∃ u, (∀ w', ExtW w w' → (Instr.loadAt t v).run P w' = .ok u w') ∧ VR w fr.X st.σ rv y u := by
  unfold loadV at hl
  cases x with
  | pt n p o =>
    rw [VR_pt] at hx
    obtain ⟨r, b, o', hσ, hloc, rfl⟩ := hx
    simp only [hσ, Option.bind_some] at hl
    cases hg : r.node.get p with
    | none => simp [hg] at hl
    | some node =>
      simp only [hg, Option.bind_some] at hl
      obtain ⟨b1, o1, k, S', hl1, hRN, hsub, _⟩ := rLoc_get (h.rr n r hσ) hg (rLoc_ne hloc)
      rw [hloc] at hl1
      simp only [Option.some.injEq, Prod.mk.injEq] at hl1
      obtain ⟨rfl, rfl⟩ := hl1
      cases node with
      | ag cs =>
        simp only at hl
        obtain ⟨hk, hc⟩ := hRN
        split at hl
        · rename_i hagg
          split at hl
          · rename_i hle
            cases hl
            obtain ⟨vs, hlen, hv, hr⟩ := VRs_views (σ := st.σ) (rv := rv) hσ hg hloc hc ((cs.drop o).take i.size) o (fun j c hj => by
              rw [List.getElem?_take] at hj; split at hj
              · rwa [List.getElem?_drop] at hj
              · cases hj)
            have hlen' : vs.length = i.size := by rw [hlen]; simp; omega
            refine ⟨.agg vs.toArray, ?_, by rw [VR_g]; exact ⟨_, rfl, by simpa using hr⟩⟩
            intro w' hw'
            simp only [Instr.loadAt, Instr.sureAddr, Sem.run_bind, Sem.run_pure, Result.andThen_ok, loadVar, run_isAgg ht, hagg, if_true, run_sizeOf ht]
            rw [run_loadCells_at hlen' (fun j v hj => cell_ext hw' (hv j v hj))]
            simp
          · cases hl
        · rename_i hagg
          simp only [Option.map_eq_some_iff] at hl
          obtain ⟨c, hc0, rfl⟩ := hl
          obtain ⟨u, hu, hru⟩ := RC_at hc hc0
          have hlt : o < cs.length := by rcases Nat.lt_or_ge o cs.length with h | h; exact h; simp [List.getElem?_eq_none h] at hc0
          refine ⟨u, ?_, VR_view hσ (VRs_views.get_snoc p r.node cs o c hg hc0) ((rAt_of_rLoc (rLoc_snoc hg hloc hlt)).trans hu) hru⟩
          intro w' hw'
          have hu' := cell_ext hw' hu
          simp only [Instr.loadAt, Instr.sureAddr, Sem.run_bind, Sem.run_pure, Result.andThen_ok, loadVar, run_isAgg ht, hagg, if_false, Bool.false_eq_true, run_load, ] at hu' ⊢
          simp only [hu']
      | _ =>
        simp only at hl
        split at hl
        · cases hl
        · rename_i hagg
          split at hl
          · rename_i ho; subst ho
            cases hl
            rw [RN_cell rfl] at hRN
            obtain ⟨hk, u, hu, hru⟩ := hRN
            refine ⟨u, ?_, VR_view hσ hg ((rAt_of_rLoc hloc).trans hu) hru⟩
            intro w' hw'
            have hu' := cell_ext hw' hu
            simp only [Instr.loadAt, Instr.sureAddr, Sem.run_bind, Sem.run_pure, Result.andThen_ok, loadVar, run_isAgg ht, hagg, if_false, Bool.false_eq_true, run_load, Nat.add_zero, ] at hu' ⊢
            simp only [hu']
          · cases hl
  | fp cs o =>
    rw [VR_fp] at hx
    obtain ⟨b, o', rfl, hZ, hc⟩ := hx
    simp only at hl
    split at hl
    · rename_i hagg
      split at hl
      · rename_i hle
        cases hl
        obtain ⟨vs, hlen, hv, hr⟩ := VRs_cells (σ := st.σ) (rv := rv) hc ((cs.drop o).take i.size) o (fun j c hj => by
          rw [List.getElem?_take] at hj; split at hj
          · rwa [List.getElem?_drop] at hj
          · cases hj)
        have hlen' : vs.length = i.size := by rw [hlen]; simp; omega
        refine ⟨.agg vs.toArray, ?_, by rw [VR_g]; exact ⟨_, rfl, by simpa using hr⟩⟩
        intro w' hw'
        simp only [Instr.loadAt, Instr.sureAddr, Sem.run_bind, Sem.run_pure, Result.andThen_ok, loadVar, run_isAgg ht, hagg, if_true, run_sizeOf ht]
        rw [run_loadCells_at hlen' (fun j v hj => cell_ext hw' (hv j v hj))]
        simp
      · cases hl
    · rename_i hagg
      simp only [Option.map_eq_some_iff] at hl
      obtain ⟨c, hc0, rfl⟩ := hl
      obtain ⟨u, hu, hru⟩ := RC_at hc hc0
      refine ⟨u, ?_, by rw [VR_c]; exact hru⟩
      intro w' hw'
      have hu' := cell_ext hw' hu
      simp only [Instr.loadAt, Instr.sureAddr, Sem.run_bind, Sem.run_pure, Result.andThen_ok, loadVar, run_isAgg ht, hagg, if_false, Bool.false_eq_true, run_load, ] at hu' ⊢
      simp only [hu']
  | _ => simp at hl

def fieldV (o : Nat) : V → Option V
  | .pt n p q => some (.pt n p (q + o))
  | .fp cs q => some (.fp cs (q + o))
  | _ => none
theorem field_ok {w X σ rv x v y t} {i : TI} {fs : List (Nat × Nat × Bool)} {f : Nat} {q : Nat × Nat × Bool} (ht : TIok P t i) (hk : i.kd = .st fs) (hq : fs[f]? = some q) (h0 : q.2.1 ≠ 0) (hx : VR w X σ rv x v) (hl : fieldV q.1 x = some y) :
    ∃ u, (∀ w', (Instr.fieldAt t v f).run P w' = .ok u w') ∧ VR w X σ rv y u := by
  obtain ⟨d, hd, _, hkd⟩ := ht.und
  rw [hk] at hkd
  obtain ⟨fields, rfl, _, hf⟩ := hkd
  obtain ⟨fd, hfd, hoff, ⟨fi, hfi, hfs⟩, _⟩ := hf f q hq
  have run : ∀ b o (w' : World), (Instr.fieldAt t (.pointer (some ⟨b, o, none⟩)) f).run P w' = .ok (.pointer (some ⟨b, o + q.1, none⟩)) w' := by
    intro b o w'
    have hsz : (sizeOf fd.type).run P w' = .ok q.2.1 w' := by simp [sizeOf, typeInfo, hfi, hfs]
    simp only [Instr.fieldAt, Sem.run_bind, run_underlying hd, Result.andThen_ok, hfd, Instr.sureAddr, Sem.run_pure, fieldPlace, hsz, h0, if_false, hoff, add_none]
  cases x with
  | pt n p o =>
    simp only [fieldV, Option.some.injEq] at hl; subst hl
    rw [VR_pt] at hx
    obtain ⟨r, b, o', hσ, hloc, rfl⟩ := hx
    exact ⟨_, run _ _, by rw [VR_pt]; exact ⟨r, b, o', hσ, hloc, by rw [Nat.add_assoc]⟩⟩
  | fp cs o =>
    simp only [fieldV, Option.some.injEq] at hl; subst hl
    rw [VR_fp] at hx
    obtain ⟨b, o', rfl, hZ, hc⟩ := hx
    exact ⟨_, run _ _, by rw [VR_fp]; exact ⟨b, o', by rw [Nat.add_assoc], hZ, hc⟩⟩
  | _ => simp [fieldV] at hl

def cellsL : PV → List PV
  | .ag cs => cs
  | x => [x]
def idxV (st : St) (i : Int) : V → Option V
  | .rf n p => (st.σ n).bind fun r => match r.node.get p with
      | some (.sl _ _ es) => if 0 ≤ i ∧ i < es.length then some (.pt n (p ++ [i.toNat]) 0) else none
      | _ => none
  | .c (.sl _ _ es) => if 0 ≤ i ∧ i < es.length then some (.fp (cellsL (es[i.toNat]?.getD .xx)) 0) else none
  | _ => none

theorem rAt_slice {w Z r v S p f k es u} (h : RR w Z r v S) (hg : r.node.get p = some (.sl f k es)) (hu : rAt w r v p = some u) : ∃ S', RV w Z (.sl f k es) u S' ∧ ∀ x, S' x → S x := by
  cases hp : decide (p = []) with
  | true =>
    have hp := of_decide_eq_true hp; subst hp
    cases r with
    | bx cs => simp [Root.node, PV.get] at hg
    | sv t =>
      simp only [rAt, Option.some.injEq] at hu; subst hu
      simp only [Root.node, PV.get, Option.some.injEq] at hg; subst hg
      exact ⟨S, h.2, fun _ h => h⟩
  | false =>
    have hp := of_decide_eq_false hp
    obtain ⟨b, o, k', S', hl, hRN, hsub, _⟩ := rLoc_get h hg (.inl hp)
    rw [RN_cell rfl] at hRN
    obtain ⟨_, v', hv', hr⟩ := hRN
    rw [rAt_of_rLoc hl, hv'] at hu
    simp only [Option.some.injEq] at hu; subst hu
    exact ⟨S', hr, hsub⟩

theorem run_indexAt {t e k b} {i : TI} (ht : TIok P t i) (hk : i.kd = .sl e k b) {w : World} {bb oo n cap : Nat} {ik : IntKind} {x : Int} (h0 : 0 ≤ x) (h1 : x < n) :
    (Instr.indexAt t (.slice (some ⟨bb, oo, none⟩) n cap) (.int ik x)).run P w = .ok (.pointer (some ⟨bb, oo + x.toNat * k, none⟩)) w := by
  obtain ⟨d, hd, _, hkd⟩ := ht.und
  rw [hk] at hkd
  obtain ⟨rfl, ie, hie, hsz, _⟩ := hkd
  have hs : (sizeOf e).run P w = .ok k w := by simp [sizeOf, typeInfo, hie, hsz]
  simp only [Instr.indexAt, asIntOf, Sem.run_bind, Sem.run_pure, Result.andThen_ok, run_underlying hd, h0, h1, and_self, if_true, hs, add_none]

theorem idx_ok {fr S rv st a w} (h : Rel0 fr S rv st a w) {t e k b x v y ik j} {i : TI} (ht : TIok P t i) (hk : i.kd = .sl e k b) (hx : VR w fr.X st.σ rv x v) (hk' : ∀ n p f k' es r, x = .rf n p → st.σ n = some r → r.node.get p = some (.sl f k' es) → k' = k)
    (hk'' : ∀ f k' es, x = .c (.sl f k' es) → k' = k) (hl : idxV st j x = some y) :
    ∃ u, (∀ w', (Instr.indexAt t v (.int ik j)).run P w' = .ok u w') ∧ VR w fr.X st.σ rv y u := by
  unfold idxV at hl
  cases x with
  | rf n p =>
    rw [VR_rf] at hx
    obtain ⟨r, hσ, hat, f, k', es, hg⟩ := hx
    simp only [hσ, Option.bind_some, hg] at hl
    have := hk' n p f k' es r rfl hσ hg; subst this
    split at hl
    · rename_i hb
      cases hl
      obtain ⟨S', hr, hsub⟩ := rAt_slice (h.rr n r hσ) hg hat
      have hlt : j.toNat < es.length := by omega
      have key : ∃ bb oo cap, v = .slice (some ⟨bb, oo, none⟩) es.length cap := by
        cases f with
        | true =>
          rw [RV_fz] at hr
          obtain ⟨A, cap, rfl, hcap, hr⟩ := hr
          obtain ⟨b1, o1, rfl, hb1, he⟩ := hr.resolve_left (by omega)
          exact ⟨b1, o1, cap, rfl⟩
        | false =>
          rw [RV_ow] at hr
          obtain ⟨b1, cap, cur, ty, rfl, _⟩ := hr.resolve_left (fun h => by omega)
          exact ⟨b1, 0, cap, rfl⟩
      obtain ⟨bb, oo, cap, rfl⟩ := key
      refine ⟨_, fun w' => run_indexAt ht hk hb.1 hb.2, ?_⟩
      rw [VR_pt]
      exact ⟨r, bb, oo + j.toNat * k', hσ, rLoc_snoc_sl hg hat hlt, by simp⟩
    · cases hl
  | c x =>
    cases x with
    | sl f k' es =>
      have := hk'' f k' es rfl; subst this
      simp only at hl
      split at hl
      · rename_i hb
        cases hl
        have hlt : j.toNat < es.length := by omega
        rw [VR_c] at hx
        obtain ⟨e', he'⟩ : ∃ e', es[j.toNat]? = some e' := ⟨_, List.getElem?_eq_getElem hlt⟩
        cases f with
        | true =>
          rw [RV_fz] at hx
          obtain ⟨A, cap, rfl, hcap, hr⟩ := hx
          obtain ⟨b1, o1, rfl, hb1, he⟩ := hr.resolve_left (by omega)
          refine ⟨_, fun w' => run_indexAt ht hk hb.1 hb.2, ?_⟩
          rw [VR_fp]
          refine ⟨b1, o1 + j.toNat * k', by simp, hb1, ?_⟩
          obtain ⟨S1, S2, hsep, hRN, _⟩ := RE_get es j.toNat e' b1 o1 k' _ he' he
          rw [he', Option.getD_some]
          cases e' with
          | ag cs => exact RC_mono (fun x h => hsep.1 x h) hRN.2
          | _ =>
            rw [RN_cell rfl] at hRN
            obtain ⟨_, u, hu, hru⟩ := hRN
            simp only [cellsL]
            rw [RC_cons]
            exact ⟨S1, fun _ => False, ⟨fun x h => hsep.1 x h, fun _ h => h, fun _ _ h => h⟩, ⟨u, hu, hru⟩, by rw [RC_nil]; trivial⟩
        | false =>
          rw [RV_ow] at hx
          obtain ⟨b1, cap, cur, ty, rfl, _, hf, _⟩ := hx.resolve_left (fun h => by omega)
          exact hf.elim
      · cases hl
    | _ => simp at hl
  | _ => simp at hl

def lenV (st : St) : V → Option Nat
  | .nl => some 0
  | .rf n p => (st.σ n).bind fun r => match r.node.get p with
      | some (.sl _ _ es) => some es.length
      | _ => none
  | .c (.sl _ _ es) => some es.length
  | .c (.sc (.string s)) => some s.size
  | .rn _ _ (.sub lo hi _) => some (hi - lo)
  | _ => none
theorem len_slice {fr S rv st a w} (h : Rel0 fr S rv st a w) {x v n} (hx : VR w fr.X st.σ rv x v) (hl : lenV st x = some n) : (∃ A cap, v = .slice A n cap) ∨ ∃ s, v = .string s ∧ n = s.size := by
  unfold lenV at hl
  cases x with
  | nl => simp only [Option.some.injEq] at hl; subst hl; rw [VR_nl] at hx; exact .inl ⟨none, 0, hx⟩
  | rf m p =>
    rw [VR_rf] at hx
    obtain ⟨r, hσ, hat, f, k', es, hg⟩ := hx
    simp only [hσ, Option.bind_some, hg, Option.some.injEq] at hl; subst hl
    obtain ⟨S', hr, hsub⟩ := rAt_slice (h.rr m r hσ) hg hat
    cases f with
    | true => rw [RV_fz] at hr; obtain ⟨A, cap, rfl, _⟩ := hr; exact .inl ⟨A, cap, rfl⟩
    | false =>
      rw [RV_ow] at hr
      rcases hr with ⟨rfl, h0⟩ | ⟨b1, cap, cur, ty, rfl, _⟩
      · exact .inl ⟨none, 0, by rw [h0]⟩
      · exact .inl ⟨_, cap, rfl⟩
  | c x =>
    cases x with
    | sl f k es =>
      simp only [Option.some.injEq] at hl; subst hl
      rw [VR_c] at hx
      cases f with
      | true => rw [RV_fz] at hx; obtain ⟨A, cap, rfl, _⟩ := hx; exact .inl ⟨A, cap, rfl⟩
      | false =>
        rw [RV_ow] at hx
        rcases hx with ⟨rfl, h0⟩ | ⟨b1, cap, cur, ty, rfl, _⟩
        · exact .inl ⟨none, 0, by rw [h0]⟩
        · exact .inl ⟨_, cap, rfl⟩
    | sc u =>
      cases u with
      | string s => simp only [Option.some.injEq] at hl; subst hl; rw [VR_c, RV_sc] at hx; exact .inr ⟨s, hx, rfl⟩
      | _ => simp at hl
    | _ => simp at hl
  | rn m p s =>
    cases s with
    | sub lo hi k =>
      simp only [Option.some.injEq] at hl; subst hl
      rw [VR_rn] at hx
      obtain ⟨u, _, A, n, cap, _, _, _, _, rfl⟩ := hx
      exact .inl ⟨_, _, rfl⟩
    | known v0 => simp at hl
  | _ => simp at hl
end Go.Eng

set_option linter.unusedSimpArgs false
set_option linter.unusedVariables false
namespace Go.Eng
open Go.RowKit
variable {P : Program} {T : Nat → Option TI}

def liveV : V → Option V
  | .dead => none
  | x => some x
theorem liveV_some {x y} (h : liveV x = some y) : x = y := by cases x <;> simp_all [liveV]
def kOf (st : St) : V → Option Nat
  | .rf n p => (st.σ n).bind fun r => match r.node.get p with
      | some (.sl _ k _) => some k
      | _ => none
  | .c (.sl _ k _) => some k
  | _ => none
def boolV : V → Option Bool
  | .c (.sc (.bool b)) => some b
  | _ => none
def intV : V → Option (IntKind × Int)
  | .c (.sc (.int k n)) => some (k, n)
  | _ => none
def scV : V → Option Value
  | .c (.sc v) => some v
  | _ => none
theorem boolV_ok {w Z σ rv x v b} (hx : VR w Z σ rv x v) (h : boolV x = some b) : v = .bool b := by
  unfold boolV at h
  split at h
  · cases h; rwa [VR_c, RV_sc] at hx
  · cases h
theorem intV_ok {w Z σ rv x v k n} (hx : VR w Z σ rv x v) (h : intV x = some (k, n)) : v = .int k n := by
  unfold intV at h
  split at h
  · cases h; rwa [VR_c, RV_sc] at hx
  · cases h
theorem scV_ok {w Z σ rv x v u} (hx : VR w Z σ rv x v) (h : scV x = some u) : v = u := by
  unfold scV at h
  split at h
  · cases h; rwa [VR_c, RV_sc] at hx
  · cases h

def unS (op : UnOp) : Value → Option Value
  | .bool b => match op with | .not => some (.bool !b) | _ => none
  | .int k n => match op with | .neg => some (.int k (wrapK k (0 - n))) | _ => none
  | _ => none
def convS (T : Nat → Option TI) (s d : Nat) (v : Value) : Option Value :=
  match T s, T d with
  | some _, some i => match i.kd, v with
    | .int k, .int _ n => some (.int k (wrapK k n))
    | .str, .string s => some (.string s)
    | _, _ => none
  | _, _ => none
theorem convS_ok {s d v u} (hT : TOK P T) (h : convS T s d v = some u) (w : World) : (convert s d v).run P w = .ok u w := by
  unfold convS at h
  split at h
  · rename_i is i hs hd
    obtain ⟨ds, hds, _, _⟩ := (hT s is hs).und
    obtain ⟨dd, hdd, _, hkd⟩ := (hT d i hd).und
    split at h
    · rename_i k k' n hki
      rw [hki] at hkd
      cases hkd; cases h
      simp only [convert, Sem.run_bind, run_underlying hds, run_underlying hdd, Result.andThen_ok, Conv.intToInt, Sem.run_pure, wrapK_eq]
    · rename_i s' hki
      rw [hki] at hkd
      cases hkd; cases h
      simp only [convert, Sem.run_bind, run_underlying hds, run_underlying hdd, Result.andThen_ok, Sem.run_pure]
    · cases h
  · cases h

def minmaxS (mx : Bool) : Value → List Value → Option Value
  | x, [] => some x
  | .int k a, .int _ b :: rest => minmaxS mx (.int k (if mx then (if a < b then b else a) else (if b < a then b else a))) rest
  | _, _ => none

def sliceV (l : Int) (h : Option Int) : V → Option V
  | .c (.sc (.string s)) => if 0 ≤ l ∧ l ≤ (h.getD s.size) ∧ (h.getD s.size) ≤ s.size then some (.c (.sc (.string (s.extract l.toNat (h.getD s.size).toNat)))) else none
  | .c (.sl true k es) => if 0 ≤ l ∧ l ≤ (h.getD es.length) ∧ (h.getD es.length) ≤ es.length then some (.c (.sl true k ((es.drop l.toNat).take ((h.getD es.length).toNat - l.toNat)))) else none
  | _ => none

def numsU8 : List PV → Option (List Int)
  | [] => some []
  | .sc (.int .u8 x) :: es => (numsU8 es).map fun xs => x :: xs
  | _ :: _ => none
def cellsOf (st : St) : V → Option (List PV)
  | .rf n p => (st.σ n).bind fun r => match r.node.get p with
      | some (.sl false _ es) => some es
      | _ => none
  | .c (.sl true _ (e :: es)) => some (e :: es)
  | _ => none
def convB (T : Nat → Option TI) (st : St) (s d : Nat) (x : V) : Option V :=
  match T s, T d with
  | some is, some i => match is.kd, i.kd with
    | .sl e _ _, .str => (T e).bind fun ie => match ie.kd with
      | .int .u8 => (cellsOf st x).bind fun es => (numsU8 es).map fun xs => .c (.sc (.string (strOfNums xs)))
      | _ => none
    | _, _ => none
  | _, _ => none
def sliceRf (st : St) (k : Nat) (l : Int) (h : Option Int) (n : Nat) (p : List Nat) : Option V :=
  (st.σ n).bind fun r => match r.node.get p with
    | some (.sl _ k' es) => if k' = k ∧ 0 ≤ l ∧ l ≤ (h.getD es.length) ∧ (h.getD es.length) ≤ es.length then some (.rn n p (.sub l.toNat (h.getD es.length).toNat k)) else none
    | _ => none
def V.one : V → Bool
  | .c (.sc v) => v.oneCell'
  | .c (.sl _ _ _) => true
  | .nl => true
  | .rf _ _ => true
  | .pt _ _ _ => true
  | .fp _ _ => true
  | .fn _ _ => true
  | _ => false
def fillV (places : List (Nat × Nat × Bool)) (cells : List V) : List (Nat × V) → Option (List V)
  | [] => some cells
  | (i, x) :: rest => match places[i]? with
    | some (off, size, agg) => match agg, x with
      | true, .g cs => if cs.length = size ∧ off + size ≤ cells.length then fillV places (cells.take off ++ cs ++ cells.drop (off + size)) rest else none
      | false, x => if x.one = true ∧ size = 1 ∧ off + 1 ≤ cells.length then fillV places (cells.set off x) rest else none
      | true, _ => none
    | none => none

def optO (st : St) : Option Operand → Option (Option Int)
  | none => some none
  | some x => (intV (evalO st x)).map fun q => some q.2

def eqCs : List EK → List V → List V → Option Bool
  | [], [], [] => some true
  | k :: ks, .c (.sc a) :: cs, .c (.sc b) :: ds => (scEqB k a b).bind fun r => (eqCs ks cs ds).map fun q => r && q
  | _, _, _ => none
def structV (T : Nat → Option TI) (op : BinOp) (t : Nat) : V → V → Option V
  | .g cs, .g ds => (T t).bind fun i => if i.eq.isEmpty = true then none else match op with
      | .eql => (eqCs i.eq cs ds).map fun b => .c (.sc (.bool b))
      | .neq => (eqCs i.eq cs ds).map fun b => .c (.sc (.bool !b))
      | _ => none
  | _, _ => none
def valV (T : Nat → Option TI) (st : St) (o : Oper) : Option V :=
  match o.op with
  | .move x => liveV (evalO st x)
  | .assign x => liveV (evalO st x)
  | .pick c a b => (boolV (evalO st c)).bind fun t => if t = true then liveV (evalO st a) else liveV (evalO st b)
  | .load t x => (T t).bind fun i => loadV i.agg i.size st (evalO st x)
  | .fieldAddr t x f => (T t).bind fun i => match i.kd with
      | .st fs => (fs[f]?).bind fun q => if q.2.1 = 0 then none else fieldV q.1 (evalO st x)
      | _ => none
  | .field t x f => (T t).bind fun i => match i.kd, evalO st x with
      | .st fs, .g cs => (fs[f]?).bind fun q => if q.2.2 then (if q.1 + q.2.1 ≤ cs.length then some (.g ((cs.drop q.1).take q.2.1)) else none) else (cs[q.1]?).bind liveV
      | _, _ => none
  | .indexAddr t x j => (T t).bind fun i => match i.kd with
      | .sl _ k _ => if kOf st (evalO st x) = some k then (intV (evalO st j)).bind fun q => idxV st q.2 (evalO st x) else none
      | _ => none
  | .index t x j => (T t).bind fun i => match i.kd, evalO st x with
      | .str, .c (.sc (.string s)) => (intV (evalO st j)).bind fun q => if 0 ≤ q.2 ∧ q.2 < s.size then some (.c (.sc (.int .u8 ((s[q.2.toNat]?.getD 0).toNat : Int)))) else none
      | _, _ => none
  | .binOp op t x y _ => (structV T op t (evalO st x) (evalO st y)).or ((scV (evalO st x)).bind fun a => (scV (evalO st y)).bind fun b =>
      match a, b with
      | .bool a, .bool b => (T t).bind fun i => match i.kd, op with
          | .bool, .eql => some (.c (.sc (.bool (a == b))))
          | .bool, .neq => some (.c (.sc (.bool (a != b))))
          | _, _ => none
      | a, b => (binS op a b).map fun v => .c (.sc v))
  | .unOp op _ x => (scV (evalO st x)).bind fun a => (unS op a).map fun v => .c (.sc v)
  | .convert s d x => match evalO st x with
      | .c (.sc a) => (convS T s d a).map fun v => .c (.sc v)
      | y => convB T st s d y
  | .extract x i => match evalO st x with
      | .tu cs => (cs[i]?).bind liveV
      | _ => none
  | .makeFunc (.func f) first caps => if first.size = 0 then some (.fn f (caps.toList.map (evalO st))) else none
  | .nilCheck x => match evalO st x with
      | .pt n p o => some (.pt n p o)
      | .fp cs o => some (.fp cs o)
      | .fn f cs => some (.fn f cs)
      | _ => none
  | .slice t x lo hi none => (T t).bind fun i => (optO st lo).bind fun l => (optO st hi).bind fun h =>
      match i.kd, evalO st x with
      | .str, .c (.sc (.string s)) => sliceV (l.getD 0) h (.c (.sc (.string s)))
      | .sl _ k _, .c (.sl true k' es) => if k = k' then sliceV (l.getD 0) h (.c (.sl true k' es)) else none
      | .sl _ k _, .rf n p => sliceRf st k (l.getD 0) h n p
      | _, _ => none
  | .build t ps => (T t).bind fun i => match i.kd with
      | .st fs => (fillV fs (i.zero.map fun z => constC (zval z)) (ps.toList.map fun q => (q.1, evalO st q.2))).map .g
      | _ => none
  | .call c => match c.callee, c.args.toList with
      | .builtin .len, [x] => ((c.argTypes[0]?).bind T).bind fun i => match i.kd with
          | .sl _ _ _ => match evalO st x with
              | .c (.sc _) => none
              | y => (lenV st y).map fun (n : Nat) => .c (.sc (.int .i64 (n : Int)))
          | .str => match evalO st x with
              | .c (.sc (.string s)) => some (.c (.sc (.int .i64 (s.size : Int))))
              | _ => none
          | _ => none
      | .builtin .min, x :: xs => (scV (evalO st x)).bind fun a => (xs.mapM fun y => scV (evalO st y)).bind fun bs => (minmaxS false a bs).map fun v => .c (.sc v)
      | .builtin .max, x :: xs => (scV (evalO st x)).bind fun a => (xs.mapM fun y => scV (evalO st y)).bind fun bs => (minmaxS true a bs).map fun v => .c (.sc v)
      | _, _ => none
  | _ => none

theorem run_minmax {mx : Bool} {w : World} : ∀ (x : Value) (xs : List Value) (v : Value), minmaxS mx x xs = some v → (xs.foldlM (if mx then Builtin.max2 else Builtin.min2) x : Sem Value).run P w = .ok v w
  | x, [], v, h => by simp only [minmaxS, Option.some.injEq] at h; subst h; simp
  | .int k a, .int k' b :: rest, v, h => by
    simp only [minmaxS] at h
    have := run_minmax (mx := mx) (w := w) _ rest v h
    cases mx
    · simp only [List.foldlM_cons, Sem.run_bind, Bool.false_eq_true, if_false, Builtin.min2, Sem.run_pure, Result.andThen_ok] at this ⊢
      exact this
    · simp only [List.foldlM_cons, Sem.run_bind, if_true, Builtin.max2, Sem.run_pure, Result.andThen_ok] at this ⊢
      exact this
  | .bool _, _ :: _, v, h => by simp [minmaxS] at h
  | .string _, _ :: _, v, h => by simp [minmaxS] at h
  | .float .., _ :: _, v, h => by simp [minmaxS] at h
  | .complex .., _ :: _, v, h => by simp [minmaxS] at h
  | .pointer _, _ :: _, v, h => by simp [minmaxS] at h
  | .slice .., _ :: _, v, h => by simp [minmaxS] at h
  | .map _, _ :: _, v, h => by simp [minmaxS] at h
  | .chan _, _ :: _, v, h => by simp [minmaxS] at h
  | .func .., _ :: _, v, h => by simp [minmaxS] at h
  | .nilFunc, _ :: _, v, h => by simp [minmaxS] at h
  | .iface .., _ :: _, v, h => by simp [minmaxS] at h
  | .nilIface, _ :: _, v, h => by simp [minmaxS] at h
  | .agg _, _ :: _, v, h => by simp [minmaxS] at h
  | .tuple _, _ :: _, v, h => by simp [minmaxS] at h
  | .int .., .bool _ :: _, v, h => by simp [minmaxS] at h
  | .int .., .string _ :: _, v, h => by simp [minmaxS] at h
  | .int .., .float .. :: _, v, h => by simp [minmaxS] at h
  | .int .., .complex .. :: _, v, h => by simp [minmaxS] at h
  | .int .., .pointer _ :: _, v, h => by simp [minmaxS] at h
  | .int .., .slice .. :: _, v, h => by simp [minmaxS] at h
  | .int .., .map _ :: _, v, h => by simp [minmaxS] at h
  | .int .., .chan _ :: _, v, h => by simp [minmaxS] at h
  | .int .., .func .. :: _, v, h => by simp [minmaxS] at h
  | .int .., .nilFunc :: _, v, h => by simp [minmaxS] at h
  | .int .., .iface .. :: _, v, h => by simp [minmaxS] at h
  | .int .., .nilIface :: _, v, h => by simp [minmaxS] at h
  | .int .., .agg _ :: _, v, h => by simp [minmaxS] at h
  | .int .., .tuple _ :: _, v, h => by simp [minmaxS] at h

theorem VRs_get {w Z σ rv} : ∀ (xs : List V) (vs : List Value) (i : Nat) (x : V), VRs w Z σ rv xs vs → xs[i]? = some x → ∃ v, vs[i]? = some v ∧ VR w Z σ rv x v
  | [], vs, i, x, h, hi => by simp at hi
  | y :: xs, vs, i, x, h, hi => by
    rw [VRs_cons] at h
    obtain ⟨v, vs', rfl, h1, h2⟩ := h
    cases i with
    | zero => simp at hi; subst hi; exact ⟨v, rfl, h1⟩
    | succ i => simp at hi; obtain ⟨u, hu, hr⟩ := VRs_get xs vs' i x h2 hi; exact ⟨u, by simpa using hu, hr⟩
theorem VRs_length {w Z σ rv} : ∀ (xs : List V) (vs : List Value), VRs w Z σ rv xs vs → vs.length = xs.length
  | [], vs, h => by rw [VRs_nil] at h; simp [h]
  | y :: xs, vs, h => by
    rw [VRs_cons] at h
    obtain ⟨v, vs', rfl, h1, h2⟩ := h
    simp [VRs_length xs vs' h2]
theorem VRs_mk {w Z σ rv} : ∀ (xs : List V) (vs : List Value), vs.length = xs.length → (∀ (i : Nat) (x : V) (v : Value), xs[i]? = some x → vs[i]? = some v → VR w Z σ rv x v) → VRs w Z σ rv xs vs
  | [], vs, h, _ => by rw [VRs_nil]; exact List.length_eq_zero_iff.1 h
  | x :: xs, [], h, _ => by simp at h
  | x :: xs, v :: vs, h, hr => by
    rw [VRs_cons]
    exact ⟨v, vs, rfl, hr 0 x v rfl rfl, VRs_mk xs vs (by simpa using h) (fun i x v h1 h2 => hr (i + 1) x v (by simpa using h1) (by simpa using h2))⟩
theorem VRs_map {fr S rv st a w} (h : Rel0 fr S rv st a w) : ∀ xs : List Operand, VRs w fr.X st.σ rv (xs.map (evalO st)) (xs.map a.eval)
  | [] => by simp [VRs_nil]
  | x :: xs => by rw [List.map_cons, VRs_cons]; exact ⟨_, _, rfl, evalO_ok h x, VRs_map h xs⟩
theorem VRs_take_drop {w Z σ rv xs vs} (h : VRs w Z σ rv xs vs) (o n : Nat) : VRs w Z σ rv ((xs.drop o).take n) ((vs.drop o).take n) := by
  have hl := VRs_length xs vs h
  refine VRs_mk _ _ (by simp [hl]) fun i x v h1 h2 => ?_
  rw [List.getElem?_take] at h1 h2
  split at h1
  · rename_i hi
    simp only [hi, if_true] at h2
    rw [List.getElem?_drop] at h1 h2
    obtain ⟨u, hu, hr⟩ := VRs_get xs vs _ x h h1
    rw [hu] at h2; cases h2; exact hr
  · cases h1
theorem VRs_append {w Z σ rv xs vs ys us} (h : VRs w Z σ rv xs vs) (h' : VRs w Z σ rv ys us) : VRs w Z σ rv (xs ++ ys) (vs ++ us) := by
  induction xs generalizing vs with
  | nil => rw [VRs_nil] at h; subst h; simpa using h'
  | cons x xs ih =>
    rw [VRs_cons] at h
    obtain ⟨v, vs', rfl, h1, h2⟩ := h
    rw [List.cons_append, VRs_cons]
    exact ⟨v, vs' ++ us, rfl, h1, ih h2⟩

theorem RE_drop {w Z k} : ∀ (n : Nat) (es : List PV) (b o : Nat), RE w Z es b o k (fun _ => False) → n ≤ es.length → RE w Z (es.drop n) b (o + n * k) k (fun _ => False)
  | 0, es, b, o, h, _ => by simpa using h
  | n + 1, [], b, o, h, hn => by simp at hn
  | n + 1, e :: es, b, o, h, hn => by
    rw [RE_cons] at h
    obtain ⟨S1, S2, hsep, h1, h2⟩ := h
    have := RE_drop n es b (o + k) (RE_mono (fun x h => hsep.2.1 x h) h2) (by simpa using hn)
    rw [List.drop_succ_cons, Nat.add_mul, Nat.one_mul, Nat.add_comm (n * k) k, ← Nat.add_assoc]
    exact this
theorem RE_take {w Z k} : ∀ (n : Nat) (es : List PV) (b o : Nat) (S : Nat → Prop), RE w Z es b o k S → RE w Z (es.take n) b o k S
  | 0, es, b, o, S, h => by simp [RE_nil]
  | n + 1, [], b, o, S, h => by simp [RE_nil]
  | n + 1, e :: es, b, o, S, h => by
    rw [RE_cons] at h
    obtain ⟨S1, S2, hsep, h1, h2⟩ := h
    simp only [List.take_succ_cons]
    rw [RE_cons]
    exact ⟨S1, S2, hsep, h1, RE_take n es b (o + k) S2 h2⟩
end Go.Eng

set_option linter.unusedSimpArgs false
set_option linter.unusedVariables false
namespace Go.Eng
open Go.RowKit
variable {P : Program} {T : Nat → Option TI}

theorem set_range (off : Nat) : ∀ (cs : List Value) (k : Nat) (arr : Array Value), off + k + cs.length ≤ arr.size →
    ((cs.zipIdx k).foldl (fun a q => a.setIfInBounds (off + q.2) q.1) arr).toList = arr.toList.take (off + k) ++ cs ++ arr.toList.drop (off + k + cs.length)
  | [], k, arr, h => by simp
  | c :: cs, k, arr, h => by
    simp only [List.length_cons] at h
    simp only [List.zipIdx_cons, List.foldl_cons]
    rw [set_range off cs (k + 1) (arr.setIfInBounds (off + k) c) (by simp; omega)]
    rw [Array.toList_setIfInBounds]
    apply List.ext_getElem?
    intro j
    simp only [List.getElem?_append, List.length_take, List.length_set, List.getElem?_take, List.getElem?_drop, List.length_append, List.length_cons, Array.length_toList, List.getElem?_cons, List.getElem?_set]
    have h1 : min (off + (k + 1)) arr.size = off + (k + 1) := by omega
    have h2 : min (off + k) arr.size = off + k := by omega
    rw [h1, h2]
    by_cases a1 : j < off + k
    · have b1 : j < off + (k + 1) + cs.length := by omega
      have b2 : j < off + (k + 1) := by omega
      have b3 : j < off + k + (cs.length + 1) := by omega
      have b4 : ¬ (off + k = j) := by omega
      simp only [if_pos b1, if_pos b2, if_pos b3, if_pos a1, if_neg b4]
    · by_cases a2 : j = off + k
      · subst a2
        have b1 : off + k < off + (k + 1) + cs.length := by omega
        have b2 : off + k < off + (k + 1) := by omega
        have b3 : off + k < off + k + (cs.length + 1) := by omega
        have b4 : off + k < arr.size := by omega
        have b5 : off + k - (off + k) = 0 := by omega
        simp only [if_pos b1, if_pos b2, if_pos b3, if_neg a1, if_pos b4, b5, if_true]
      · by_cases a3 : j < off + (k + 1) + cs.length
        · have b2 : ¬ j < off + (k + 1) := by omega
          have b3 : j < off + k + (cs.length + 1) := by omega
          have b5 : ¬ (j - (off + k) = 0) := by omega
          simp only [if_pos a3, if_neg b2, if_pos b3, if_neg a1, if_neg b5]
          first | rfl | (congr 1; omega)
        · have b3 : ¬ j < off + k + (cs.length + 1) := by omega
          have b4 : ¬ (off + k = off + (k + 1) + cs.length + (j - (off + (k + 1) + cs.length))) := by omega
          simp only [if_neg a3, if_neg b3, if_neg b4]
          first | rfl | (congr 1; omega)

theorem one_cell {fr S rv st a w} (h0 : Rel0 fr S rv st a w) {x v} (hx : VR w fr.X st.σ rv x v) (h : x.one = true) : v.oneCell' = true := by
  cases x with
  | c t =>
    rw [VR_c] at hx
    cases t with
    | sc u => rw [RV_sc] at hx; subst hx; exact h
    | sl f k es =>
      cases f with
      | true => rw [RV_fz] at hx; obtain ⟨A, cap, rfl, _⟩ := hx; rfl
      | false =>
        rw [RV_ow] at hx
        rcases hx with ⟨rfl, _⟩ | ⟨b, cap, cur, ty, rfl, _⟩ <;> rfl
    | _ => simp [V.one] at h
  | nl => rw [VR_nl] at hx; subst hx; rfl
  | rf n p =>
    rw [VR_rf] at hx
    obtain ⟨r, hσ, hat, f, k', es, hg⟩ := hx
    obtain ⟨S', hr, hsub⟩ := rAt_slice (h0.rr n r hσ) hg hat
    cases f with
    | true => rw [RV_fz] at hr; obtain ⟨A, cap, rfl, _⟩ := hr; rfl
    | false =>
      rw [RV_ow] at hr
      rcases hr with ⟨rfl, _⟩ | ⟨b, cap, cur, ty, rfl, _⟩ <;> rfl
  | pt n p o => rw [VR_pt] at hx; obtain ⟨r, b, o', _, _, rfl⟩ := hx; rfl
  | fp cs o => rw [VR_fp] at hx; obtain ⟨b, o', rfl, _⟩ := hx; rfl
  | fn f cs => rw [VR_fn] at hx; obtain ⟨arr, rfl, _⟩ := hx; rfl
  | _ => simp [V.one] at h

theorem one_cells {v : Value} (h : v.oneCell' = true) : v.cells = #[v] := by cases v <;> first | rfl | (simp [Value.oneCell'] at h)
theorem fill_ok {fr S rv st a w} (h0 : Rel0 fr S rv st a w) {fs : List (Nat × Nat × Bool)} (place : Nat → Option (Nat × Nat)) (hp : ∀ i q, fs[i]? = some q → place i = some (q.1, q.2.1)) :
    ∀ (ps : List (Nat × V)) (us : List (Nat × Value)) (cells : List V) (arr : Array Value) (out : List V), us.map (·.1) = ps.map (·.1) → VRs w fr.X st.σ rv (ps.map (·.2)) (us.map (·.2)) → VRs w fr.X st.σ rv cells arr.toList →
      fillV fs cells ps = some out → ∃ arr', Instr.fill place arr us = some arr' ∧ VRs w fr.X st.σ rv out arr'.toList
  | [], us, cells, arr, out, h1, h2, h3, h => by
    simp only [List.map_nil, List.map_eq_nil_iff] at h1; subst h1
    simp only [fillV, Option.some.injEq] at h; subst h
    exact ⟨arr, rfl, h3⟩
  | (i, x) :: ps, [], cells, arr, out, h1, h2, h3, h => by simp at h1
  | (i, x) :: ps, (i', u) :: us, cells, arr, out, h1, h2, h3, h => by
    simp only [List.map_cons, List.cons.injEq] at h1
    obtain ⟨rfl, h1⟩ := h1
    simp only [List.map_cons] at h2
    rw [VRs_cons] at h2
    obtain ⟨v, vs', e, hx, h2⟩ := h2
    simp only [List.cons.injEq] at e
    obtain ⟨rfl, rfl⟩ := e
    have hlen := VRs_length _ _ h3
    simp only [fillV] at h
    cases hq : fs[i']? with
    | none => simp [hq] at h
    | some q =>
      obtain ⟨off, size, agg⟩ := q
      simp only [hq] at h
      simp only [Instr.fill, hp i' _ hq]
      -- what is put, cell by cell
      have put : ∀ (cs : List V), VRs w fr.X st.σ rv cs u.cells.toList → cs.length = size → off + size ≤ cells.length → fillV fs (cells.take off ++ cs ++ cells.drop (off + size)) ps = some out →
          ∃ arr', (if (decide (u.cells.size ≠ size) || decide (off + u.cells.size > arr.size)) = true then none else Instr.fill place (u.cells.zipIdx.foldl (fun cs q => cs.setIfInBounds (off + q.2) q.1) arr) us) = some arr' ∧ VRs w fr.X st.σ rv out arr'.toList := by
        intro cs hx hcs hle hf
        have hl2 := VRs_length _ _ hx
        simp only [Array.length_toList] at hl2 hlen
        rw [if_neg (by simp only [Bool.or_eq_true, decide_eq_true_eq]; omega)]
        have hset := set_range off u.cells.toList 0 arr (by simp only [Array.length_toList]; omega)
        refine fill_ok h0 place hp ps us _ _ out h1 h2 ?_ hf
        have e : (u.cells.zipIdx.foldl (fun cs q => cs.setIfInBounds (off + q.2) q.1) arr).toList = arr.toList.take off ++ u.cells.toList ++ arr.toList.drop (off + size) := by
          rw [← Array.foldl_toList, Array.toList_zipIdx]
          rw [hset]; simp [hl2, hcs]
        rw [e]
        exact VRs_append (VRs_append (by simpa using VRs_take_drop h3 0 off) hx) (by
          have := VRs_take_drop h3 (off + size) (cells.length)
          rwa [List.take_of_length_le (by simp), List.take_of_length_le (by simp; omega)] at this)
      cases agg with
      | true =>
        cases x with
        | g cs =>
          simp only at h
          split at h
          · rename_i hc
            rw [VR_g] at hx
            obtain ⟨a2, rfl, hx⟩ := hx
            exact put cs hx hc.1 hc.2 h
          · cases h
        | _ => simp at h
      | false =>
        simp only at h
        split at h
        · rename_i hc
          obtain ⟨ho, rfl, hle⟩ := hc
          have hcell := one_cells (one_cell h0 hx ho)
          refine put [x] (by rw [hcell]; rw [VRs_cons]; exact ⟨u, [], rfl, hx, by rw [VRs_nil]⟩) rfl hle ?_
          rw [← h]; congr 1
          rw [List.set_eq_take_append_cons_drop]
          simp only [List.append_assoc, List.singleton_append]
          rw [if_pos (by omega)]
        · cases h
end Go.Eng

set_option linter.unusedSimpArgs false
set_option linter.unusedVariables false
namespace Go.Eng
open Go.RowKit
variable {P : Program} {T : Nat → Option TI}

theorem kOf_rf {st x k} (hk : kOf st x = some k) : ∀ n p f k' es r, x = .rf n p → st.σ n = some r → r.node.get p = some (.sl f k' es) → k' = k := by
  rintro n p f k' es r rfl hσ hg
  simpa [kOf, hσ, hg] using hk
theorem kOf_c {st x k} (hk : kOf st x = some k) : ∀ f k' es, x = .c (.sl f k' es) → k' = k := by
  rintro f k' es rfl
  simpa [kOf] using hk
theorem optO_ok {fr S rv st a w} (h : Rel0 fr S rv st a w) {x : Option Operand} {l} (hl : optO st x = some l) : ∃ k : Int → IntKind, x.map a.eval = l.map (fun n => .int (k n) n) := by
  cases x with
  | none => simp only [optO, Option.some.injEq] at hl; subst hl; exact ⟨fun _ => .i64, rfl⟩
  | some x =>
    simp only [optO, Option.map_eq_some_iff] at hl
    obtain ⟨⟨k, n⟩, hq, rfl⟩ := hl
    exact ⟨fun _ => k, by simp [intV_ok (evalO_ok h x) hq]⟩
theorem run_bound {k : IntKind} {i : Int} {y : Nat} {code : BoundsCode} {w : World} (h0 : 0 ≤ i) (h1 : i ≤ y) : (Instr.sliceBound (.int k i) y code).run P w = .ok i.toNat w := by
  simp [Instr.sliceBound, asIntOf, h0, h1]

theorem slice_ok {fr S rv st a w} (h : Rel0 fr S rv st a w) {t i x v y} (ht : TIok P t i) (hx : VR w fr.X st.σ rv x v) {l hi : Option Int} {kl kh : Int → IntKind}
    (hk : (i.kd = .str ∧ ∃ s, x = .c (.sc (.string s))) ∨ (∃ e k b, i.kd = .sl e k b ∧ ∃ es, x = .c (.sl true k es))) (hl : sliceV (l.getD 0) hi x = some y) :
    ∃ u, (∀ w', (Instr.sliceAt t v (l.map fun n => .int (kl n) n) (hi.map fun n => .int (kh n) n) none).run P w' = .ok u w') ∧ VR w fr.X st.σ rv y u := by
  obtain ⟨d, hd, _, hkd⟩ := ht.und
  rcases hk with ⟨hk, s, rfl⟩ | ⟨e, k, b, hk, es, rfl⟩
  · rw [hk] at hkd
    cases hkd
    rw [VR_c, RV_sc] at hx; subst hx
    simp only [sliceV] at hl
    split at hl
    · rename_i hb
      cases hl
      refine ⟨.string (s.extract (l.getD 0).toNat (hi.getD s.size).toNat), ?_, by rw [VR_c, RV_sc]⟩
      intro w'
      cases l <;> cases hi <;> simp only [Option.getD_some, Option.getD_none] at hb ⊢ <;>
        simp only [Instr.sliceAt, Instr.slice, Instr.sliceBounds, Sem.run_bind, run_underlying hd, Result.andThen_ok, Option.map_some, Option.map_none, Option.isSome_none, Bool.false_eq_true, if_false, Sem.run_pure]
      · simp
      · rename_i h'
        rw [run_bound (by omega) (by omega)]
        simp
      · rename_i l'
        rw [run_bound (by omega) (by omega)]
        simp
      · rename_i l' h'
        rw [run_bound (y := s.size) (by omega) (by omega)]
        simp only [Result.andThen_ok]
        rw [run_bound (by omega) (by omega)]
        simp
    · cases hl
  · rw [hk] at hkd
    obtain ⟨rfl, ie, hie, hsz, _⟩ := hkd
    have hs : ∀ w' : World, (sizeOf e).run P w' = .ok k w' := by intro w'; simp [sizeOf, typeInfo, hie, hsz]
    rw [VR_c, RV_fz] at hx
    obtain ⟨A, cap, rfl, hcap, hA⟩ := hx
    simp only [sliceV] at hl
    split at hl
    · rename_i hb
      cases hl
      have hrun : ∀ w' : World, (Instr.sliceAt t (.slice A es.length cap) (l.map fun n => .int (kl n) n) (hi.map fun n => .int (kh n) n) none).run P w' =
          .ok (.slice (if cap = (l.getD 0).toNat then A else A.map (·.add ((l.getD 0).toNat * k))) ((hi.getD es.length).toNat - (l.getD 0).toNat) (cap - (l.getD 0).toNat)) w' := by
        intro w'
        cases l <;> cases hi <;> simp only [Option.getD_some, Option.getD_none] at hb ⊢ <;>
          simp only [Instr.sliceAt, Instr.slice, Instr.sliceBounds, Sem.run_bind, run_underlying hd, Result.andThen_ok, Option.map_some, Option.map_none, Option.isSome_none, Bool.false_eq_true, if_false, Sem.run_pure, if_true, hs]
        · simp
        · rename_i h'
          rw [run_bound (by omega) (by omega)]
          simp [hs]
        · rename_i l'
          rw [run_bound (by omega) (by omega)]
          simp [hs]
        · rename_i l' h'
          rw [run_bound (y := cap) (by omega) (by omega)]
          simp only [Result.andThen_ok]
          rw [run_bound (by omega) (by omega)]
          simp [hs]
      refine ⟨_, hrun, ?_⟩
      rw [VR_c, RV_fz]
      have hlen : ((es.drop (l.getD 0).toNat).take ((hi.getD es.length).toNat - (l.getD 0).toNat)).length = (hi.getD es.length).toNat - (l.getD 0).toNat := by
        simp only [List.length_take, List.length_drop]; omega
      refine ⟨_, _, by rw [hlen], by rw [hlen]; omega, ?_⟩
      rw [hlen]
      by_cases hz : (hi.getD es.length).toNat - (l.getD 0).toNat = 0
      · exact .inl hz
      · right
        obtain ⟨b1, o1, rfl, hb1, he⟩ := hA.resolve_left (by omega)
        have hne : ¬ (cap = (l.getD 0).toNat) := by omega
        rw [if_neg hne]
        refine ⟨b1, o1 + (l.getD 0).toNat * k, by simp [add_none], hb1, ?_⟩
        exact RE_take _ _ _ _ _ (RE_drop _ es b1 o1 he (by omega))
    · cases hl

theorem RE_scs {w Z b k} : ∀ (es : List PV) (xs : List Int) (o : Nat) (S : Nat → Prop), RE w Z es b o k S → numsU8 es = some xs → ∀ i, i < xs.length → (k = 1 ∨ xs.length = 0) ∧ w.cell? ⟨b, o + i, none⟩ = some (.int .u8 (xs.getD i 0))
  | [], xs, o, S, h, hn, i, hi => by simp [numsU8] at hn; subst hn; simp at hi
  | c :: es, xs, o, S, h, hn, i, hi => by
    unfold numsU8 at hn
    split at hn
    · rename_i e; cases e
    · rename_i x es' e
      cases e
      simp only [Option.map_eq_some_iff] at hn
      obtain ⟨xs', hn', rfl⟩ := hn
      rw [RE_cons] at h
      obtain ⟨S1, S2, _, h1, h2⟩ := h
      rw [RN_cell rfl] at h1
      obtain ⟨rfl, v, hv, hr⟩ := h1
      rw [RV_sc] at hr; subst hr
      refine ⟨.inl rfl, ?_⟩
      cases i with
      | zero => simpa using hv
      | succ i =>
        have := (RE_scs es xs' (o + 1) S2 h2 hn' i (by simpa using hi)).2
        simpa [Nat.add_assoc, Nat.add_comm 1] using this
    · cases hn
theorem numsU8_len : ∀ (es : List PV) (xs : List Int), numsU8 es = some xs → xs.length = es.length
  | [], xs, h => by simp [numsU8] at h; subst h; rfl
  | c :: es, xs, h => by
    unfold numsU8 at h
    split at h
    · rename_i e; cases e
    · rename_i x es' e
      cases e
      simp only [Option.map_eq_some_iff] at h
      obtain ⟨xs', h', rfl⟩ := h
      simp [numsU8_len _ _ h']
    · cases h
theorem conv_sl {w w' : World} {Z s d e f k es xs v S} (hs : P.underlying s = some (.slice e)) (he : P.underlying e = some (.int .u8)) (hd : P.underlying d = some .string) (hw : ExtW w w') (h : RV w Z (.sl f k es) v S) (hne : f = true → es ≠ []) (hn : numsU8 es = some xs) :
    (convert s d v).run P w' = .ok (.string (strOfNums xs)) w' := by
  have hl := numsU8_len es xs hn
  have key : ∀ b o cap S', RE w Z es b o k S' → (convert s d (.slice (some ⟨b, o, none⟩) es.length cap)).run P w' = .ok (.string (strOfNums xs)) w' := by
    intro b o cap S' hre
    rw [← hl]
    exact run_convert_bytes_arg w' s e hs he b o xs.length cap xs rfl (fun i hi => (World.cell?_of_block (hw.2 b (cell_lt (RE_scs es xs o S' hre hn i hi).2))).trans (RE_scs es xs o S' hre hn i hi).2) d hd
  cases f with
  | true =>
    rw [RV_fz] at h
    obtain ⟨A, cap, rfl, hc, hA⟩ := h
    rcases hA with h0 | ⟨b, o, rfl, _, hre⟩
    · exact absurd (List.length_eq_zero_iff.1 h0) (hne rfl)
    · exact key b o cap _ hre
  | false =>
    rw [RV_ow] at h
    rcases h with ⟨rfl, h0⟩ | ⟨b, cap, cur, ty, rfl, hc, hS, hheap, hsz, hre⟩
    · have : xs = [] := List.length_eq_zero_iff.1 (by omega)
      subst this
      rw [run_convert_bytes_nil w' s e hs he 0 0 d hd]
      rfl
    · exact key b 0 cap _ hre
theorem convB_ok (hT : TOK P T) {fr S rv st a w} (h : Rel0 fr S rv st a w) {s d x v y} (hx : VR w fr.X st.σ rv x v) (hv : convB T st s d x = some y) :
    ∃ str, (∀ w', ExtW w w' → (convert s d v).run P w' = .ok (.string str) w') ∧ y = .c (.sc (.string str)) := by
  unfold convB at hv
  split at hv
  · rename_i is i hTs hTd
    split at hv
    · rename_i e k0 b0 his hid
      simp only [Option.bind_eq_some_iff] at hv
      obtain ⟨ie, hie, hv⟩ := hv
      split at hv
      · rename_i hkd
        simp only [Option.bind_eq_some_iff, Option.map_eq_some_iff] at hv
        obtain ⟨es, hes, xs, hxs, rfl⟩ := hv
        obtain ⟨ds, hds, _, hkds⟩ := (hT s is hTs).und
        obtain ⟨dd, hdd, _, hkdd⟩ := (hT d i hTd).und
        obtain ⟨de, hde, _, hkde⟩ := (hT e ie hie).und
        rw [his] at hkds; rw [hid] at hkdd; rw [hkd] at hkde
        obtain ⟨rfl, _⟩ := hkds
        cases hkdd; cases hkde
        refine ⟨_, fun w' hw' => ?_, rfl⟩
        unfold cellsOf at hes
        split at hes
        · rename_i n p
          rw [VR_rf] at hx
          obtain ⟨r, hσ, hat, f, k', es', hg⟩ := hx
          simp only [hσ, Option.bind_some, hg] at hes
          cases f with
          | true => cases hes
          | false =>
            cases hes
            obtain ⟨S', hr, _⟩ := rAt_slice (h.rr n r hσ) hg hat
            exact conv_sl hds hde hdd hw' hr (fun h => by cases h) hxs
        · rename_i k' e' es'
          cases hes
          rw [VR_c] at hx
          exact conv_sl hds hde hdd hw' hx (fun _ => by simp) hxs
        · cases hes
      · cases hv
    · cases hv
  · cases hv
theorem slice_rf_ok {fr S rv st a w} (h : Rel0 fr S rv st a w) {t i v y n p} {e k b : Nat} (ht : TIok P t i) (hx : VR w fr.X st.σ rv (.rf n p) v) {l hi : Option Int} {kl kh : Int → IntKind}
    (hk : i.kd = .sl e k b) (hl : sliceRf st k (l.getD 0) hi n p = some y) :
    ∃ u, (∀ w', (Instr.sliceAt t v (l.map fun n => .int (kl n) n) (hi.map fun n => .int (kh n) n) none).run P w' = .ok u w') ∧ VR w fr.X st.σ rv y u := by
  obtain ⟨d, hd, _, hkd⟩ := ht.und
  rw [hk] at hkd
  obtain ⟨rfl, ie, hie, hsz, _⟩ := hkd
  have hs : ∀ w' : World, (sizeOf e).run P w' = .ok k w' := by intro w'; simp [sizeOf, typeInfo, hie, hsz]
  have hx0 := hx
  rw [VR_rf] at hx
  obtain ⟨r, hσ, hat, f, k', es, hg⟩ := hx
  simp only [sliceRf, hσ, Option.bind_some, hg] at hl
  split at hl
  · rename_i hb
    obtain ⟨rfl, hb⟩ := hb
    cases hl
    obtain ⟨S', hr, _⟩ := rAt_slice (h.rr n r hσ) hg hat
    obtain ⟨A, cap, rfl, hcap⟩ : ∃ A cap, v = .slice A es.length cap ∧ es.length ≤ cap := by
      cases f with
      | true => rw [RV_fz] at hr; obtain ⟨A, cap, rfl, hc, _⟩ := hr; exact ⟨A, cap, rfl, hc⟩
      | false =>
        rw [RV_ow] at hr
        rcases hr with ⟨rfl, h0⟩ | ⟨b, cap, cur, ty, rfl, hc, _⟩
        · exact ⟨none, 0, by rw [h0], by omega⟩
        · exact ⟨_, cap, rfl, hc⟩
    have hrun : ∀ w' : World, (Instr.sliceAt t (.slice A es.length cap) (l.map fun n => .int (kl n) n) (hi.map fun n => .int (kh n) n) none).run P w' =
        .ok (.slice (if cap = (l.getD 0).toNat then A else A.map (·.add ((l.getD 0).toNat * k'))) ((hi.getD es.length).toNat - (l.getD 0).toNat) (cap - (l.getD 0).toNat)) w' := by
      intro w'
      cases l <;> cases hi <;> simp only [Option.getD_some, Option.getD_none] at hb ⊢ <;>
        simp only [Instr.sliceAt, Instr.slice, Instr.sliceBounds, Sem.run_bind, run_underlying hd, Result.andThen_ok, Option.map_some, Option.map_none, Option.isSome_none, Bool.false_eq_true, if_false, Sem.run_pure, if_true, hs]
      · simp
      · rename_i h'
        rw [run_bound (by omega) (by omega)]
        simp [hs]
      · rename_i l'
        rw [run_bound (by omega) (by omega)]
        simp [hs]
      · rename_i l' h'
        rw [run_bound (y := cap) (by omega) (by omega)]
        simp only [Result.andThen_ok]
        rw [run_bound (by omega) (by omega)]
        simp [hs]
    refine ⟨_, hrun, ?_⟩
    rw [VR_rn]
    exact ⟨_, hx0, A, _, cap, rfl, hcap, by omega, by omega, rfl⟩
  · cases hl
theorem mapM_scV {fr S rv st a w} (h : Rel0 fr S rv st a w) : ∀ (xs : List Operand) (bs : List Value), (xs.mapM fun y => scV (evalO st y)) = some bs → xs.map a.eval = bs
  | [], bs, hb => by simp at hb; subst hb; rfl
  | x :: xs, bs, hb => by
    rw [List.mapM_cons] at hb
    simp only [Option.pure_def, Option.bind_eq_bind, Option.bind_eq_some_iff, Option.some.injEq] at hb
    obtain ⟨b, hb1, bs', hb2, rfl⟩ := hb
    simp [scV_ok (evalO_ok h x) hb1, mapM_scV h xs bs' hb2]

theorem eqGuard_sc {op t x y a b} {w : World} (h : (∃ v, binS op a b = some v) ∨ (∃ p q, a = .bool p ∧ b = .bool q)) : (eqGuard op t x y a b).run P w = .ok () w := by
  rcases h with ⟨v, h⟩ | ⟨p, q, rfl, rfl⟩
  · unfold binS at h
    split at h
    · unfold eqGuard; cases op <;> simp
    · unfold eqGuard; cases op <;> simp
    · cases h
  · unfold eqGuard; cases op <;> simp
theorem run_builtin_call {ρ : Operand → Value} {o : Oper} {c : Call} {b : Builtin} (ho : o.op = .call c) (hc : c.callee = .builtin b) (w : World) :
    (execOp ρ o).run P w = (builtin b c.argTypes o.type (c.args.map fun | .const _ => true | _ => false) (c.args.map ρ)).run P w := by
  obtain ⟨callee, args, argTypes⟩ := c
  simp only at hc; subst hc
  simp only [execOp, ho, Sem.run_bind, resolve, Sem.run_pure, Result.andThen_ok, invoke]
  rfl

def isMem (o : Oper) : Bool :=
  match o.op with
  | .load .. | .convert .. => true
  | _ => false
theorem valV_ok' (hT : TOK P T) {fr S rv st a w} (h : Rel0 fr S rv st a w) {o : Oper} {y : V} (hv : valV T st o = some y) :
    ∃ u, (∀ w', (isMem o = true → ExtW w w') → (execOp a.eval o).run P w' = .ok (.value u) w') ∧ VR w fr.X st.σ rv y u := by
  unfold valV at hv
  split at hv
  · -- move
    rename_i x ho
    have := liveV_some hv; subst this
    exact ⟨a.eval x, fun w' hw' => by simp only [execOp, ho, Sem.run_pure], evalO_ok h x⟩
  · rename_i x ho
    have := liveV_some hv; subst this
    exact ⟨a.eval x, fun w' hw' => by simp only [execOp, ho, Sem.run_pure], evalO_ok h x⟩
  · -- pick
    rename_i c x z ho
    simp only [Option.bind_eq_some_iff] at hv
    obtain ⟨t, ht, hv⟩ := hv
    have hc := boolV_ok (evalO_ok h c) ht
    split at hv
    · rename_i ht'; subst ht'
      have := liveV_some hv; subst this
      exact ⟨a.eval x, fun w' hw' => by simp [execOp, ho, hc, asBool], evalO_ok h x⟩
    · rename_i ht'
      have := liveV_some hv; subst this
      exact ⟨a.eval z, fun w' hw' => by simp [execOp, ho, hc, asBool, ht'], evalO_ok h z⟩
  · -- load
    rename_i t x ho
    simp only [Option.bind_eq_some_iff] at hv
    obtain ⟨i, hi, hv⟩ := hv
    obtain ⟨u, hu, hr⟩ := load_ok (P := P) h (hT t i hi) (evalO_ok h x) hv
    exact ⟨u, fun w' hw' => by simp only [execOp, ho, Sem.run_bind, hu w' (hw' (by simp [isMem, ho])), Result.andThen_ok, Sem.run_pure], hr⟩
  · -- fieldAddr
    rename_i t x f ho
    simp only [Option.bind_eq_some_iff] at hv
    obtain ⟨i, hi, hv⟩ := hv
    split at hv
    · rename_i fs hk
      simp only [Option.bind_eq_some_iff] at hv
      obtain ⟨q, hq, hv⟩ := hv
      split at hv
      · cases hv
      · rename_i h0
        obtain ⟨u, hu, hr⟩ := field_ok (P := P) (hT t i hi) hk hq h0 (evalO_ok h x) hv
        exact ⟨u, fun w' hw' => by simp only [execOp, ho, Sem.run_bind, hu, Result.andThen_ok, Sem.run_pure], hr⟩
    · cases hv
  · -- field
    rename_i t x f ho
    simp only [Option.bind_eq_some_iff] at hv
    obtain ⟨i, hi, hv⟩ := hv
    split at hv
    · rename_i fs cs hk hx
      simp only [Option.bind_eq_some_iff] at hv
      obtain ⟨q, hq, hv⟩ := hv
      obtain ⟨d, hd, _, hkd⟩ := (hT t i hi).und
      rw [hk] at hkd
      obtain ⟨fields, rfl, _, hf⟩ := hkd
      obtain ⟨fd, hfd, hoff, ⟨fi, hfi, hfs⟩, fdd, hfdd, hagg⟩ := hf f q hq
      have hxr := evalO_ok h x
      rw [hx, VR_g] at hxr
      obtain ⟨arr, hax, hxr⟩ := hxr
      have hia : ∀ w' : World, (isAgg fd.type).run P w' = .ok q.2.2 w' := by
        intro w'
        simp only [isAgg, run_underlying hfdd, Sem.run_bind, Result.andThen_ok, ← hagg]
        cases fdd <;> rfl
      have hsz : ∀ w' : World, (sizeOf fd.type).run P w' = .ok q.2.1 w' := by intro w'; simp [sizeOf, typeInfo, hfi, hfs]
      split at hv
      · rename_i hq2
        split at hv
        · rename_i hle
          cases hv
          have hl := VRs_length _ _ hxr
          refine ⟨.agg (arr.extract q.1 (q.1 + q.2.1)), ?_, ?_⟩
          · intro w' hw'
            simp only [execOp, ho, Sem.run_bind, Instr.field, run_underlying hd, Result.andThen_ok, hfd, hax, asAgg, Sem.run_pure, part, hia, hq2, if_true, hsz, hoff]
          · rw [VR_g]
            refine ⟨_, rfl, ?_⟩
            have := VRs_take_drop hxr q.1 q.2.1
            rw [Array.toList_extract]
            simpa [List.extract_eq_take_drop] using this
        · cases hv
      · rename_i hq2
        simp only [Option.bind_eq_some_iff] at hv
        obtain ⟨y', hy, hv⟩ := hv
        have := liveV_some hv; subst this
        obtain ⟨u, hu, hr⟩ := VRs_get _ _ _ _ hxr hy
        refine ⟨u, ?_, hr⟩
        have hu' : arr[q.1]? = some u := by simpa using hu
        intro w' hw'
        simp only [execOp, ho, Sem.run_bind, Instr.field, run_underlying hd, Result.andThen_ok, hfd, hax, asAgg, Sem.run_pure, part, hia, hq2, Bool.false_eq_true, if_false, hoff, hu']
    · cases hv
  · -- indexAddr
    rename_i t x j ho
    simp only [Option.bind_eq_some_iff] at hv
    obtain ⟨i, hi, hv⟩ := hv
    split at hv
    · rename_i e k b hk
      split at hv
      · rename_i hkof
        simp only [Option.bind_eq_some_iff] at hv
        obtain ⟨⟨ik, q⟩, hq, hv⟩ := hv
        obtain ⟨u, hu, hr⟩ := idx_ok (P := P) (ik := ik) h (hT t i hi) hk (evalO_ok h x) (kOf_rf hkof) (kOf_c hkof) hv
        have hj := intV_ok (evalO_ok h j) hq
        exact ⟨u, fun w' hw' => by simp only [execOp, ho, Sem.run_bind, hj, hu, Result.andThen_ok, Sem.run_pure], hr⟩
      · cases hv
    · cases hv
  · -- index
    rename_i t x j ho
    simp only [Option.bind_eq_some_iff] at hv
    obtain ⟨i, hi, hv⟩ := hv
    split at hv
    · rename_i s hk hx
      simp only [Option.bind_eq_some_iff] at hv
      obtain ⟨⟨ik, q⟩, hq, hv⟩ := hv
      have hj := intV_ok (evalO_ok h j) hq
      have hxr := evalO_ok h x
      rw [hx, VR_c, RV_sc] at hxr
      obtain ⟨d, hd, _, hkd⟩ := (hT t i hi).und
      rw [hk] at hkd
      cases hkd
      split at hv
      · rename_i hb
        cases hv
        obtain ⟨b, hbb⟩ : ∃ b, s[q.toNat]? = some b := ⟨_, getElem?_pos s q.toNat (show q.toNat < s.size by omega)⟩
        refine ⟨.int .u8 b.toNat, ?_, by rw [VR_c, RV_sc, hbb]; rfl⟩
        intro w' hw'
        simp only [execOp, ho, Sem.run_bind, Instr.index, hj, asIntOf, Sem.run_pure, Result.andThen_ok, run_underlying hd, hxr, hb.1, if_true, hbb]
      · cases hv
    · cases hv
  · -- binOp
    rename_i op t x z yt ho
    rw [Option.or_eq_some_iff] at hv
    rcases hv with hv | ⟨-, hv⟩
    · unfold structV at hv
      split at hv
      · rename_i cs ds hx hz
        simp only [Option.bind_eq_some_iff] at hv
        obtain ⟨i, hi, hv⟩ := hv
        split at hv
        · cases hv
        · rename_i hne
          have hq := (hT t i hi).eqs (by simpa using hne)
          have hxr := evalO_ok h x
          have hzr := evalO_ok h z
          rw [hx, VR_g] at hxr
          rw [hz, VR_g] at hzr
          obtain ⟨xs, hxe, hxr⟩ := hxr
          obtain ⟨ys, hze, hzr⟩ := hzr
          have key : ∀ b, eqCs i.eq cs ds = some b → ∀ w' : World, (Op.equalIn 10000 t (.agg xs) (.agg ys)).run P w' = .ok b w' := by
            intro b hb w'
            rw [show (10000 : Nat) = 9999 + 1 from rfl, run_equalIn_agg w' 9999 t _ _ hq.und hq.held]
            have hcs : ∀ (ks : List EK) (cs ds : List V) (as bs : List Value) (b : Bool), eqCs ks cs ds = some b → VRs w fr.X st.σ rv cs as → VRs w fr.X st.σ rv ds bs → eqVs ks as bs = some b := by
              intro ks
              induction ks with
              | nil =>
                intro cs ds as bs b hb h1 h2
                unfold eqCs at hb
                split at hb
                · rw [VRs_nil] at h1 h2; subst h1; subst h2; exact hb
                · contradiction
                · cases hb
              | cons k ks ih =>
                intro cs ds as bs b hb h1 h2
                unfold eqCs at hb
                split at hb
                · contradiction
                · rename_i k' ks' a cs' c ds' e
                  cases e
                  rw [VRs_cons] at h1 h2
                  obtain ⟨v, vs, rfl, hv1, h1⟩ := h1
                  obtain ⟨u, us, rfl, hu1, h2⟩ := h2
                  rw [VR_c, RV_sc] at hv1 hu1
                  subst hv1; subst hu1
                  simp only [Option.bind_eq_some_iff, Option.map_eq_some_iff] at hb
                  obtain ⟨r, hr, q, hq, rfl⟩ := hb
                  simp only [eqVs, hr, ih _ _ _ _ _ hq h1 h2, Option.bind_some, Option.map_some]
                · cases hb
            exact eqVs_ok w' 9998 xs ys i.eq (P.fieldsOf t).toList 0 xs.toList ys.toList b (by simpa using hq.len) (fun j f k h1 h2 => by simpa using hq.flds j f k (by simpa using h1) h2) (fun j v hv => by simpa using hv) (fun j v hv => by simpa using hv) (hcs _ _ _ _ _ _ hb hxr hzr)
          split at hv
          · simp only [Option.map_eq_some_iff] at hv
            obtain ⟨b, hb, rfl⟩ := hv
            refine ⟨.bool b, ?_, by rw [VR_c, RV_sc]⟩
            intro w' hw'
            simp only [execOp, ho, Sem.run_bind, hxe, hze, run_eqGuard_agg w' _ t _ _ xs ys hq.guard, Result.andThen_ok, run_eql_struct, key b hb w', Sem.run_pure]
          · simp only [Option.map_eq_some_iff] at hv
            obtain ⟨b, hb, rfl⟩ := hv
            refine ⟨.bool !b, ?_, by rw [VR_c, RV_sc]⟩
            intro w' hw'
            simp only [execOp, ho, Sem.run_bind, hxe, hze, run_eqGuard_agg w' _ t _ _ xs ys hq.guard, Result.andThen_ok, run_neq_struct, key b hb w', Sem.run_pure]
          · cases hv
      · cases hv
    simp only [Option.bind_eq_some_iff] at hv
    obtain ⟨p0, hp0, q0, hq0, hv⟩ := hv
    have hp := scV_ok (evalO_ok h x) hp0
    have hq := scV_ok (evalO_ok h z) hq0
    clear hp0 hq0
    split at hv
    · rename_i p q
      simp only [Option.bind_eq_some_iff] at hv
      obtain ⟨i, hi, hv⟩ := hv
      obtain ⟨d, hd, _, hkd⟩ := (hT t i hi).und
      have he : (∀ w' : World, (Op.equal t (.bool p) (.bool q)).run P w' = .ok (p == q) w') ∨ i.kd ≠ .bool := by
        by_cases hb : i.kd = .bool
        · rw [hb] at hkd
          cases hkd
          left
          have key : ∀ (n : Nat) (w' : World), (Op.equalIn (n + 1) t (.bool p) (.bool q)).run P w' = .ok (p == q) w' := by
            intro n w'
            simp only [Op.equalIn, Sem.run_bind, run_underlying hd, Result.andThen_ok, Sem.run_pure]
          exact key 9999
        · exact .inr hb
      split at hv
      · rename_i hk
        cases hv
        refine ⟨.bool (p == q), ?_, by rw [VR_c, RV_sc]⟩
        intro w' hw'
        simp only [execOp, ho, Sem.run_bind, hp, hq, eqGuard_sc (.inr ⟨p, q, rfl, rfl⟩), Result.andThen_ok, Go.binOp, he.resolve_right (fun h => h hk), Sem.run_pure]
      · rename_i hk
        cases hv
        refine ⟨.bool (p != q), ?_, by rw [VR_c, RV_sc]⟩
        intro w' hw'
        simp only [execOp, ho, Sem.run_bind, hp, hq, eqGuard_sc (.inr ⟨p, q, rfl, rfl⟩), Result.andThen_ok, Go.binOp, he.resolve_right (fun h => h hk), Sem.run_pure, bne]
      · cases hv
    · simp only [Option.map_eq_some_iff] at hv
      obtain ⟨v, hb, rfl⟩ := hv
      refine ⟨v, ?_, by rw [VR_c, RV_sc]⟩
      intro w' hw'
      simp only [execOp, ho, Sem.run_bind, hp, hq, eqGuard_sc (.inl ⟨v, hb⟩), Result.andThen_ok, binS_ok hb, Sem.run_pure]
  · -- unOp
    rename_i op t x ho
    simp only [Option.bind_eq_some_iff, Option.map_eq_some_iff] at hv
    obtain ⟨p, hp, v, hu, rfl⟩ := hv
    have hp := scV_ok (evalO_ok h x) hp
    refine ⟨v, ?_, by rw [VR_c, RV_sc]⟩
    unfold unS at hu
    split at hu
    · split at hu
      · cases hu; intro w' hw'; simp [execOp, ho, hp, Op.unary]
      · cases hu
    · split at hu
      · cases hu; intro w' hw'; simp [execOp, ho, hp, Op.unary, Op.intArith, wrapK_eq]
      · cases hu
    · cases hu
  · -- convert
    rename_i s d x ho
    split at hv
    · rename_i p hx
      simp only [Option.map_eq_some_iff] at hv
      obtain ⟨v, hu, rfl⟩ := hv
      have hp : a.eval x = p := by have := evalO_ok h x; rw [hx, VR_c, RV_sc] at this; exact this
      refine ⟨v, ?_, by rw [VR_c, RV_sc]⟩
      intro w' hw'
      simp only [execOp, ho, Sem.run_bind, hp, convS_ok hT hu, Result.andThen_ok, Sem.run_pure]
    · obtain ⟨str, hrun, rfl⟩ := convB_ok hT h (evalO_ok h x) hv
      refine ⟨.string str, ?_, by rw [VR_c, RV_sc]⟩
      intro w' hw'
      simp only [execOp, ho, Sem.run_bind, hrun w' (hw' (by simp [isMem, ho])), Result.andThen_ok, Sem.run_pure]
  · -- extract
    rename_i x i ho
    split at hv
    · rename_i cs hx
      simp only [Option.bind_eq_some_iff] at hv
      obtain ⟨y', hy, hv⟩ := hv
      have := liveV_some hv; subst this
      have hxr := evalO_ok h x
      rw [hx, VR_tu] at hxr
      obtain ⟨arr, hax, hxr⟩ := hxr
      obtain ⟨u, hu, hr⟩ := VRs_get _ _ _ _ hxr hy
      have hu' : arr[i]? = some u := by simpa using hu
      exact ⟨u, fun w' hw' => by simp only [execOp, ho, Sem.run_bind, Instr.extract, hax, hu', Sem.run_pure, Result.andThen_ok], hr⟩
    · cases hv
  · -- makeFunc
    rename_i f first caps ho
    split at hv
    · rename_i h0
      cases hv
      have : first = #[] := Array.eq_empty_of_size_eq_zero h0
      subst this
      refine ⟨.func (.func f) #[] (caps.map a.eval), fun w' hw' => by simp [execOp, ho, Instr.makeFunc], ?_⟩
      rw [VR_fn]
      exact ⟨_, rfl, by simpa using VRs_map h caps.toList⟩
    · cases hv
  · -- nilCheck
    rename_i x ho
    have hxr := evalO_ok h x
    split at hv
    · rename_i n p q hx
      cases hv
      rw [hx] at hxr
      refine ⟨a.eval x, ?_, hxr⟩
      rw [VR_pt] at hxr
      obtain ⟨r, b, o', _, _, hax⟩ := hxr
      intro w' hw'; simp [execOp, ho, hax]
    · rename_i cs q hx
      cases hv
      rw [hx] at hxr
      refine ⟨a.eval x, ?_, hxr⟩
      rw [VR_fp] at hxr
      obtain ⟨b, o', hax, _⟩ := hxr
      intro w' hw'; simp [execOp, ho, hax]
    · rename_i f cs hx
      cases hv
      rw [hx] at hxr
      refine ⟨a.eval x, ?_, hxr⟩
      rw [VR_fn] at hxr
      obtain ⟨arr, hax, _⟩ := hxr
      intro w' hw'; simp [execOp, ho, hax]
    · cases hv
  · -- slice
    rename_i t x lo hi ho
    simp only [Option.bind_eq_some_iff] at hv
    obtain ⟨i, hi', l, hl, h2, hh, hv⟩ := hv
    obtain ⟨kl, hlo⟩ := optO_ok h hl
    obtain ⟨kh, hhi⟩ := optO_ok h hh
    by_cases hrf : ∃ n p, evalO st x = .rf n p
    · obtain ⟨n, p, hx⟩ := hrf
      rw [hx] at hv
      have hxr := evalO_ok h x
      rw [hx] at hxr
      split at hv
      · rename_i e1 e2; cases e2
      · rename_i e1 e2; cases e2
      · rename_i e k b n' p' hk e2
        cases e2
        obtain ⟨u, hu, hr⟩ := slice_rf_ok (P := P) (kl := kl) (kh := kh) h (hT t i hi') hxr hk hv
        exact ⟨u, fun w' hw' => by simp only [execOp, ho, Sem.run_bind, hlo, hhi, Option.map_none, hu, Result.andThen_ok, Sem.run_pure], hr⟩
      · cases hv
    have key : (i.kd = .str ∧ ∃ s, evalO st x = .c (.sc (.string s))) ∨ (∃ e k b, i.kd = .sl e k b ∧ ∃ es, evalO st x = .c (.sl true k es)) := by
      split at hv
      · rename_i s hk hx; exact .inl ⟨hk, s, hx⟩
      · rename_i e k b k' es hk hx
        split at hv
        · rename_i e'; subst e'; exact .inr ⟨e, k, b, hk, es, hx⟩
        · cases hv
      · rename_i hx; exact absurd ⟨_, _, hx⟩ hrf
      · cases hv
    have hv' : sliceV (l.getD 0) h2 (evalO st x) = some y := by
      split at hv
      · rename_i s hk hx; rw [hx]; exact hv
      · rename_i e k b k' es hk hx
        split at hv
        · rw [hx]; exact hv
        · cases hv
      · rename_i hx; exact absurd ⟨_, _, hx⟩ hrf
      · cases hv
    obtain ⟨u, hu, hr⟩ := slice_ok (P := P) (kl := kl) (kh := kh) h (hT t i hi') (evalO_ok h x) key hv'
    exact ⟨u, fun w' hw' => by simp only [execOp, ho, Sem.run_bind, hlo, hhi, Option.map_none, hu, Result.andThen_ok, Sem.run_pure], hr⟩
  · -- build
    rename_i t ps ho
    simp only [Option.bind_eq_some_iff] at hv
    obtain ⟨i, hi, hv⟩ := hv
    split at hv
    · rename_i fs hk
      simp only [Option.map_eq_some_iff] at hv
      obtain ⟨out, hf, rfl⟩ := hv
      obtain ⟨d, hd, _, hkd⟩ := (hT t i hi).und
      rw [hk] at hkd
      obtain ⟨fields, rfl, hpl, hfl⟩ := hkd
      obtain ⟨inf, z, hinf, hsz, hz, hzc, _⟩ := (hT t i hi).inf
      obtain ⟨arr', hfill, hr⟩ := fill_ok h (fs := fs) (fun i => ((fs.map fun q => (q.1, q.2.1)).toArray)[i]?) (fun i q hq => by simp [hq])
        (ps.toList.map fun q => (q.1, evalO st q.2)) (ps.toList.map fun q => (q.1, a.eval q.2)) (i.zero.map fun z => constC (zval z)) z.cells out (by simp) (by
          have := VRs_map h (ps.toList.map (·.2))
          simpa [List.map_map, Function.comp_def] using this) (by rw [hzc]; have := VRs_constC (w := w) (Z := fr.X) (σ := st.σ) (rv := rv) (i.zero.map zval); simpa [List.map_map, Function.comp_def] using this) hf
      refine ⟨.agg arr', ?_, by rw [VR_g]; exact ⟨_, rfl, hr⟩⟩
      have hrun := fun w' : World => run_build (P := P) w' t (ps.map fun (i, x) => (i, a.eval x)) arr' (by
        simp only [Program.built, hinf, hd, hz, hpl]
        simpa using hfill)
      intro w' hw'
      simp only [execOp, ho, Sem.run_bind, hrun, Result.andThen_ok, Sem.run_pure]
    · cases hv
  · -- call
    rename_i c ho
    split at hv
    · -- len
      rename_i x hcal hargs
      simp only [Option.bind_eq_some_iff] at hv
      obtain ⟨i, ⟨t, ht, hi⟩, hv⟩ := hv
      have hca : c.args = #[x] := by rw [← Array.toArray_toList (xs := c.args), hargs]
      obtain ⟨d, hd, _, hkd⟩ := (hT t i hi).und
      simp only [run_builtin_call ho hcal]
      split at hv
      · rename_i e k b hk
        rw [hk] at hkd
        obtain ⟨rfl, _⟩ := hkd
        split at hv
        · cases hv
        · rename_i y' hne
          simp only [Option.map_eq_some_iff] at hv
          obtain ⟨n, hn, rfl⟩ := hv
          refine ⟨.int .i64 n, ?_, by rw [VR_c, RV_sc]⟩
          rcases len_slice h (evalO_ok h x) hn with ⟨A, cap, hax⟩ | ⟨s, hax, rfl⟩
          · intro w' hw'
            simp only [builtin, Builtin.len_, hca, List.map_toArray, List.map_cons, List.map_nil, ht, hax, Sem.run_bind, run_underlying hd, Result.andThen_ok, Sem.run_pure, goInt]
            simp [run_underlying hd, goInt]
          · exfalso
            have hxr := evalO_ok h x
            rw [hax] at hxr
            unfold lenV at hn
            split at hn
            · rename_i he; rw [he, VR_nl] at hxr; cases hxr
            · rename_i n' p' he
              rw [he, VR_rf] at hxr
              obtain ⟨r, hσ, hat, f, k', es, hg⟩ := hxr
              obtain ⟨S', hr, hsub⟩ := rAt_slice (h.rr n' r hσ) hg hat
              cases f with
              | true => rw [RV_fz] at hr; obtain ⟨A, cap, hh, _⟩ := hr; cases hh
              | false =>
                rw [RV_ow] at hr
                rcases hr with ⟨hh, _⟩ | ⟨b, cap, cur, ty, hh, _⟩ <;> cases hh
            · rename_i f k' es he
              rw [he, VR_c] at hxr
              cases f with
              | true => rw [RV_fz] at hxr; obtain ⟨A, cap, hh, _⟩ := hxr; cases hh
              | false =>
                rw [RV_ow] at hxr
                rcases hxr with ⟨hh, _⟩ | ⟨b, cap, cur, ty, hh, _⟩ <;> cases hh
            · rename_i s' he; exact hne _ he
            · rename_i n' p' lo' hi' k'' he
              rw [he, VR_rn] at hxr
              obtain ⟨u, _, A, n, cap, _, _, _, _, hh⟩ := hxr
              cases hh
            · cases hn
      · rename_i hk
        rw [hk] at hkd
        cases hkd
        split at hv
        · rename_i s hx
          cases hv
          have hxr := evalO_ok h x
          rw [hx, VR_c, RV_sc] at hxr
          refine ⟨.int .i64 s.size, ?_, by rw [VR_c, RV_sc]⟩
          intro w' hw'
          simp only [builtin, Builtin.len_, hca, List.map_toArray, List.map_cons, List.map_nil, ht, hxr, Sem.run_bind, run_underlying hd, Result.andThen_ok, Sem.run_pure, goInt]
          simp [run_underlying hd, goInt]
        · cases hv
      · cases hv
    · -- min
      rename_i x xs hcal hargs
      simp only [Option.bind_eq_some_iff, Option.map_eq_some_iff] at hv
      obtain ⟨p, hp, bs, hbs, v, hm, rfl⟩ := hv
      refine ⟨v, ?_, by rw [VR_c, RV_sc]⟩
      intro w' hw'
      rw [run_builtin_call ho hcal]
      have hmap : (c.args.map a.eval).toList = p :: bs := by
        rw [Array.toList_map, hargs, List.map_cons, scV_ok (evalO_ok h x) hp, mapM_scV h xs bs hbs]
      have := run_minmax (P := P) (mx := false) (w := w') p bs v hm
      simp only [Bool.false_eq_true, if_false] at this
      simp only [builtin, Builtin.min_, hmap, Sem.run_bind, this, Result.andThen_ok, Sem.run_pure]
    · rename_i x xs hcal hargs
      simp only [Option.bind_eq_some_iff, Option.map_eq_some_iff] at hv
      obtain ⟨p, hp, bs, hbs, v, hm, rfl⟩ := hv
      refine ⟨v, ?_, by rw [VR_c, RV_sc]⟩
      intro w' hw'
      rw [run_builtin_call ho hcal]
      have hmap : (c.args.map a.eval).toList = p :: bs := by
        rw [Array.toList_map, hargs, List.map_cons, scV_ok (evalO_ok h x) hp, mapM_scV h xs bs hbs]
      have := run_minmax (P := P) (mx := true) (w := w') p bs v hm
      simp only [if_true] at this
      simp only [builtin, Builtin.max_, hmap, Sem.run_bind, this, Result.andThen_ok, Sem.run_pure]
    · cases hv
  · cases hv
theorem valV_ok (hT : TOK P T) {fr S rv st a w} (h : Rel0 fr S rv st a w) {o : Oper} {y : V} (hv : valV T st o = some y) :
    ∃ u, (∀ w', ExtW w w' → (execOp a.eval o).run P w' = .ok (.value u) w') ∧ VR w fr.X st.σ rv y u :=
  have ⟨u, h1, h2⟩ := valV_ok' hT h hv
  ⟨u, fun w' hw => h1 w' fun _ => hw, h2⟩
end Go.Eng

set_option linter.unusedSimpArgs false
set_option linter.unusedVariables false
namespace Go.Eng
open Go.RowKit
variable {P : Program} {T : Nat → Option TI}

def St.put (st : St) (d : Option Nat) (x : V) : St :=
  match d with
  | none => st
  | some d => { st with env := fun t => if t = d then x else st.env t }
def dOK (N : Nat) (d : Option Nat) : Prop := ∀ x, d = some x → x < N
theorem Rel0.put {fr S rv st a w} (h : Rel0 fr S rv st a w) {d x v} (hd : dOK fr.N d) (hx : VR w fr.X st.σ rv x v) : Rel0 fr S rv (st.put d x) (a.put d v) w := by
  cases d with
  | none => exact h
  | some d =>
    have hd := hd d rfl
    refine { h with n := by simp [Act.put, h.n], env := fun t => ?_ }
    simp only [St.put, Act.put]
    by_cases e : t = d
    · subst e
      simp only [if_true]
      rw [show (a.tmps.setIfInBounds t v).getD t undef = v by simp [h.n, hd]]
      exact hx
    · simp only [if_neg e]
      rw [show (a.tmps.setIfInBounds d v).getD t undef = a.tmps.getD t undef by simp [Array.getElem?_setIfInBounds_ne (Ne.symm e)]]
      exact h.env t

theorem Rel0.change {fr S rv st a w} (h : Rel0 fr S rv st a w) {w' : World} {σ' : Nat → Option Root} {S' : Nat → Nat → Prop} {rv' : Nat → Value} (C : Nat → Prop)
    (hos : w'.os = w.os) (htape : TD w w') (hout : w'.output = w.output) (hsz : w.heap.size ≤ w'.heap.size) (hy : Agr w w' fr.Y)
    (hn : ∀ n r, ¬ C n → st.σ n = some r → Agr w w' (S n))
    (hσ : ∀ n, ¬ C n → σ' n = st.σ n) (hS : ∀ n, ¬ C n → S' n = S n) (hrv : ∀ n, ¬ C n → rv' n = rv n)
    (hC : ∀ n r, C n → σ' n = some r → RR w' fr.X r (rv' n) (S' n))
    (hCb : ∀ n r b, C n → σ' n = some r → S' n b → (w.heap.size ≤ b ∧ b < w'.heap.size) ∨ ∃ m r', C m ∧ st.σ m = some r' ∧ S m b)
    (hCd : ∀ n m r r' b, C n → C m → σ' n = some r → σ' m = some r' → n ≠ m → S' n b → S' m b → False)
    (hr0 : ∀ n r v, C n → σ' n = some r → fr.rv0 n = some v → rv' n = v)
    (f g : Nat → List Nat → Option (Nat × List Nat))
    (hf : ∀ n p v, C n → VR w fr.X st.σ rv (.rf n p) v → match f n p with | some (m, q) => VR w' fr.X σ' rv' (.rf m q) v | none => True)
    (hg : ∀ n p o v, C n → VR w fr.X st.σ rv (.pt n p o) v → match g n p with | some (m, q) => VR w' fr.X σ' rv' (.pt m q o) v | none => True)
    (hf' : ∀ n p, ¬ C n → f n p = some (n, p)) (hg' : ∀ n p, ¬ C n → g n p = some (n, p)) :
    Rel0 fr S' rv' { env := fun t => (st.env t).ren f g, σ := σ' } a w' :=
  have hx : Agr w w' fr.X := fun b hb => hy b (h.xy b hb)
  { 
  os := hos.trans h.os
  tape := htape.trans h.tape
  output := hout.trans h.output
  size := Nat.le_trans h.size hsz
  agr := fun x hxx => (hy x hxx).trans (h.agr x hxx)
  xy := h.xy
  xlt := h.xlt
  n := h.n
  defers := h.defers
  rr := fun n r hr => by
    by_cases hc : C n
    · exact hC n r hc hr
    · have hr : σ' n = some r := hr
      rw [hσ n hc] at hr
      rw [hS n hc, hrv n hc]
      exact RR_congr hx (fun _ h => h) (hn n r hc hr) (fun _ h => h) (h.rr n r hr)
  sout := fun n r b hr hb => by
    have hr : σ' n = some r := hr
    by_cases hc : C n
    · rcases hCb n r b hc hr hb with ⟨h1, h2⟩ | ⟨m, r', _, hm, hb'⟩
      · exact ⟨h2, fun hxb => by have := h.xlt b hxb; have := h.size; omega, .inr (by have := h.size; omega)⟩
      · obtain ⟨h1, h2, h3⟩ := h.sout m r' b hm hb'
        exact ⟨by omega, h2, h3⟩
    · rw [hσ n hc] at hr
      rw [hS n hc] at hb
      obtain ⟨h1, h2, h3⟩ := h.sout n r b hr hb
      exact ⟨by omega, h2, h3⟩
  sdis := fun n m r r' b hnr hmr hne hb1 hb2 => by
    have hnr : σ' n = some r := hnr
    have hmr : σ' m = some r' := hmr
    have mixed : ∀ n m r r', C n → ¬ C m → σ' n = some r → st.σ m = some r' → S' n b → S m b → False := by
      intro n m r r' hc hc' hr hr' h1 h2
      rcases hCb n r b hc hr h1 with ⟨h3, _⟩ | ⟨q, r2, hq, hr2, h3⟩
      · have := (h.sout m r' b hr' h2).1; omega
      · exact h.sdis q m r2 r' b hr2 hr' (fun e => hc' (e ▸ hq)) h3 h2
    by_cases hc : C n <;> by_cases hc' : C m
    · exact hCd n m r r' b hc hc' hnr hmr hne hb1 hb2
    · rw [hσ m hc'] at hmr; rw [hS m hc'] at hb2
      exact mixed n m r r' hc hc' hnr hmr hb1 hb2
    · rw [hσ n hc] at hnr; rw [hS n hc] at hb1
      exact mixed m n r' r hc' hc hmr hnr hb2 hb1
    · rw [hσ n hc] at hnr; rw [hS n hc] at hb1; rw [hσ m hc'] at hmr; rw [hS m hc'] at hb2
      exact h.sdis n m r r' b hnr hmr hne hb1 hb2
  rv0 := fun n r v hr hv => by
    have hr : σ' n = some r := hr
    by_cases hc : C n
    · exact hr0 n r v hc hr hv
    · rw [hσ n hc] at hr; rw [hrv n hc]; exact h.rv0 n r v hr hv
  env := fun t => by
    refine VR_ren hx (fun _ h => h) f g ?_ ?_ _ _ (h.env t)
    · intro n p v hv
      by_cases hc : C n
      · exact hf n p v hc hv
      · rw [hf' n p hc]
        simp only
        rw [VR_rf] at *
        obtain ⟨r, hr, hat, f', k, es, hgt⟩ := hv
        refine ⟨r, (hσ n hc).trans hr, ?_, f', k, es, hgt⟩
        rw [hrv n hc, rAt_congr hx (hn n r hc hr) (h.rr n r hr) hgt rfl]; exact hat
    · intro n p o v hv
      by_cases hc : C n
      · exact hg n p o v hc hv
      · rw [hg' n p hc]
        simp only
        rw [VR_pt] at *
        obtain ⟨r, b, o', hr, hl, rfl⟩ := hv
        refine ⟨r, b, o', (hσ n hc).trans hr, ?_, rfl⟩
        rw [hrv n hc, rLoc_congr hx (hn n r hc hr) (h.rr n r hr)]; exact hl }

def RVs (w : World) (Z : Nat → Prop) : List PV → List Value → (Nat → Prop) → Prop
  | [], vs, _ => vs = []
  | c :: cs, vs, S => ∃ v vs' S1 S2, vs = v :: vs' ∧ Sep S S1 S2 ∧ v.oneCell' = true ∧ RV w Z c v S1 ∧ RVs w Z cs vs' S2
theorem RVs_congr {w w' : World} {Z : Nat → Prop} (hz : Agr w w' Z) : ∀ (cs : List PV) (vs : List Value) (S S' : Nat → Prop), Agr w w' S → (∀ x, S x → S' x) → RVs w Z cs vs S → RVs w' Z cs vs S'
  | [], vs, S, S', _, _, h => h
  | c :: cs, vs, S, S', hs, hS, h => by
    obtain ⟨v, vs', S1, S2, rfl, hsep, ho, h1, h2⟩ := h
    exact ⟨v, vs', S1, S2, rfl, hsep.mono hS, ho, RV_congr hz (fun _ h => h) c v S1 S1 (fun x h => hs x (hsep.1 x h)) (fun _ h => h) h1, RVs_congr hz cs vs' S2 S2 (fun x h => hs x (hsep.2.1 x h)) (fun _ h => h) h2⟩
theorem RVs_length {w Z} : ∀ (cs : List PV) (vs : List Value) (S : Nat → Prop), RVs w Z cs vs S → vs.length = cs.length
  | [], vs, S, h => by simp [RVs] at h; simp [h]
  | c :: cs, vs, S, h => by
    obtain ⟨v, vs', S1, S2, rfl, hsep, ho, h1, h2⟩ := h
    simp [RVs_length cs vs' S2 h2]
theorem RC_of_RVs {w Z b} : ∀ (cs : List PV) (vs : List Value) (o : Nat) (S : Nat → Prop), RVs w Z cs vs S → (∀ j v, vs[j]? = some v → w.cell? ⟨b, o + j, none⟩ = some v) → RC w Z cs b o S
  | [], vs, o, S, _, _ => by rw [RC_nil]; trivial
  | c :: cs, vs, o, S, h, hc => by
    obtain ⟨v, vs', S1, S2, rfl, hsep, ho, h1, h2⟩ := h
    rw [RC_cons]
    exact ⟨S1, S2, hsep, ⟨v, hc 0 v rfl, h1⟩, RC_of_RVs cs vs' (o + 1) S2 h2 (fun j u hj => by have := hc (j + 1) u (by simpa using hj); rwa [show o + (j + 1) = o + 1 + j by omega] at this)⟩

def take1 (st : St) (z : PV) : V → Option (PV × List Nat)
  | .c (.sc v) => if v.oneCell' = true then some (.sc v, []) else none
  | .c (.sl true k es) => some (.sl true k es, [])
  | .nl => match z with
      | .sl false k [] => some (.sl false k [], [])
      | _ => none
  | .rf n [] => match st.σ n with
      | some (.sv t) => some (t, [n])
      | _ => none
  | _ => none
def takeCells (st : St) : List PV → List V → Option (List PV × List Nat)
  | [], [] => some ([], [])
  | z :: zs, x :: xs => (take1 st z x).bind fun q => (takeCells st zs xs).bind fun q' => some (q.1 :: q'.1, q.2 ++ q'.2)
  | _, _ => none
def takeV (st : St) (i : TI) (x : V) : Option (List PV × List Nat) :=
  if i.agg then match x with
    | .g cs => takeCells st i.zero cs
    | _ => none
  else takeCells st i.zero [x]

theorem take1_ok {fr S rv st a w} (h : Rel0 fr S rv st a w) {z x c ms v} (hx : VR w fr.X st.σ rv x v) (ht : take1 st z x = some (c, ms)) :
    RV w fr.X c v (fun b => ∃ n ∈ ms, S n b) ∧ v.oneCell' = true ∧ c.isAg = false ∧ (∀ n ∈ ms, ∃ t, st.σ n = some (.sv t)) ∧ ms.length ≤ 1 := by
  unfold take1 at ht
  split at ht
  · rename_i u
    split at ht
    · rename_i ho; cases ht; rw [VR_c, RV_sc] at hx; subst hx; exact ⟨by rw [RV_sc], ho, rfl, by simp, by simp⟩
    · cases ht
  · cases ht
    rw [VR_c, RV_fz] at hx
    have hx' := hx
    obtain ⟨A, cap, rfl, _⟩ := hx
    exact ⟨by rw [RV_fz]; exact hx', rfl, rfl, by simp, by simp⟩
  · split at ht
    · cases ht; rw [VR_nl] at hx; subst hx; exact ⟨by rw [RV_ow]; exact .inl ⟨rfl, rfl⟩, rfl, rfl, by simp, by simp⟩
    · cases ht
  · rename_i n
    split at ht
    · rename_i t hσ
      cases ht
      rw [VR_rf] at hx
      obtain ⟨r, hr, hat, f, k, es, hg⟩ := hx
      rw [hσ] at hr; cases hr
      simp only [rAt, Option.some.injEq] at hat; subst hat
      simp only [Root.node, PV.get, Option.some.injEq] at hg; subst hg
      have := h.rr n _ hσ
      obtain ⟨hown, hrv⟩ := this
      simp [PV.isOwn] at hown; subst hown
      refine ⟨RV_mono (fun b hb => ⟨n, by simp, hb⟩) hrv, ?_, rfl, by simp [hσ], by simp⟩
      rw [RV_ow] at hrv
      rcases hrv with ⟨e, _⟩ | ⟨b, cap, cur, ty, e, _⟩ <;> rw [e] <;> rfl
    · cases ht
  · cases ht
theorem takeCells_ok {fr S rv st a w} (h : Rel0 fr S rv st a w) : ∀ (zs : List PV) (xs : List V) (vs : List Value) (cs : List PV) (ms : List Nat), VRs w fr.X st.σ rv xs vs → takeCells st zs xs = some (cs, ms) → ms.Nodup →
    RVs w fr.X cs vs (fun b => ∃ n ∈ ms, S n b) ∧ (∀ c ∈ cs, c.isAg = false) ∧ (∀ n ∈ ms, ∃ t, st.σ n = some (.sv t)) ∧ cs.length = zs.length
  | [], [], vs, cs, ms, hx, ht, _ => by
    simp only [takeCells, Option.some.injEq, Prod.mk.injEq] at ht; obtain ⟨rfl, rfl⟩ := ht
    rw [VRs_nil] at hx; subst hx
    exact ⟨rfl, by simp, by simp, rfl⟩
  | [], _ :: _, vs, cs, ms, hx, ht, _ => by simp [takeCells] at ht
  | _ :: _, [], vs, cs, ms, hx, ht, _ => by simp [takeCells] at ht
  | z :: zs, x :: xs, vs, cs, ms, hx, ht, hnd => by
    simp only [takeCells, Option.bind_eq_some_iff, Option.some.injEq, Prod.mk.injEq] at ht
    obtain ⟨⟨c, m1⟩, h1, ⟨cs', m2⟩, h2, rfl, rfl⟩ := ht
    rw [VRs_cons] at hx
    obtain ⟨v, vs', rfl, hx1, hx2⟩ := hx
    rw [List.nodup_append] at hnd
    obtain ⟨r1, o1, a1, b1, l1⟩ := take1_ok h hx1 h1
    obtain ⟨r2, a2, b2, l2⟩ := takeCells_ok h zs xs vs' cs' m2 hx2 h2 hnd.2.1
    refine ⟨⟨v, vs', _, _, rfl, ⟨?_, ?_, ?_⟩, o1, r1, r2⟩, ?_, ?_, by simp [l2]⟩
    · rintro b ⟨n, hn, hb⟩; exact ⟨n, List.mem_append.2 (.inl hn), hb⟩
    · rintro b ⟨n, hn, hb⟩; exact ⟨n, List.mem_append.2 (.inr hn), hb⟩
    · rintro b ⟨n, hn, hb⟩ ⟨m, hm, hb'⟩
      obtain ⟨t, hσ⟩ := b1 n hn
      obtain ⟨t', hσ'⟩ := b2 m hm
      exact h.sdis n m _ _ b hσ hσ' (hnd.2.2 n hn m hm) hb hb'
    · intro c' hc'
      rcases List.mem_cons.1 hc' with rfl | hc'
      · exact a1
      · exact a2 c' hc'
    · intro n hn
      exact (List.mem_append.1 hn).elim (b1 n) (b2 n)
theorem takeV_ok {fr S rv st a w} (h : Rel0 fr S rv st a w) {i x v cs ms} (hx : VR w fr.X st.σ rv x v) (ht : takeV st i x = some (cs, ms)) (hnd : ms.Nodup) :
    RVs w fr.X cs v.cells.toList (fun b => ∃ n ∈ ms, S n b) ∧ (∀ c ∈ cs, c.isAg = false) ∧ (∀ n ∈ ms, ∃ t, st.σ n = some (.sv t)) ∧ cs.length = i.zero.length := by
  unfold takeV at ht
  split at ht
  · split at ht
    · rename_i xs
      rw [VR_g] at hx
      obtain ⟨arr, rfl, hx⟩ := hx
      exact takeCells_ok h _ _ _ _ _ hx ht hnd
    · cases ht
  · have hx1 : VRs w fr.X st.σ rv [x] [v] := by rw [VRs_cons]; exact ⟨v, [], rfl, hx, by rw [VRs_nil]⟩
    have := takeCells_ok h _ _ _ _ _ hx1 ht hnd
    have h1 := this.1
    have ho : v.oneCell' = true := by
      cases cs with
      | nil => simp [RVs] at h1
      | cons c cs => obtain ⟨v', vs', S1, S2, e, _, ho, _⟩ := h1; simp only [List.cons.injEq] at e; rw [e.1]; exact ho
    rw [one_cells ho]
    exact this

def kill (ms : List Nat) (n : Nat) (p : List Nat) : Option (Nat × List Nat) := if n ∈ ms then none else some (n, p)
def St.move (st : St) (ms : List Nat) : St := { env := fun t => (st.env t).ren (kill ms) (kill ms), σ := fun n => if n ∈ ms then none else st.σ n }
def St.new (st : St) (n : Nat) (r : Root) : St := { st with σ := fun m => if m = n then some r else st.σ m }
def rootName (d : Nat) : Nat := d * 1000

theorem Rel0.create {fr S rv st a w} (h : Rel0 fr S rv st a w) {w' : World} {d : Nat} {r : Root} {v : Value} {ms : List Nat} {S1 : Nat → Prop}
    (hos : w'.os = w.os) (htape : TD w w') (hout : w'.output = w.output) (hsz : w.heap.size ≤ w'.heap.size) (hall : ∀ b, b < w.heap.size → w'.heap[b]? = w.heap[b]?)
    (hd : st.σ d = none) (hms : ∀ n ∈ ms, ∃ r, st.σ n = some r) (hr : RR w' fr.X r v S1) (hS1 : ∀ b, S1 b → (w.heap.size ≤ b ∧ b < w'.heap.size) ∨ ∃ n ∈ ms, S n b) (hr0 : fr.rv0 d = none) :
    ∃ S' rv', Rel0 fr S' rv' ((st.move ms).new d r) a w' ∧ rv' d = v := by
  have hlt : ∀ n r b, st.σ n = some r → S n b → b < w.heap.size := fun n r b hn hb => (h.sout n r b hn hb).1
  refine ⟨fun n => if n = d then S1 else S n, fun n => if n = d then v else rv n, ?_, by simp⟩
  have key := h.change (w' := w') (σ' := fun n => if n = d then some r else if n ∈ ms then none else st.σ n) (S' := fun n => if n = d then S1 else S n) (rv' := fun n => if n = d then v else rv n) (fun n => n = d ∨ n ∈ ms)
    hos htape hout hsz (fun b hb => hall b (Nat.lt_of_lt_of_le (h.xlt b hb) h.size)) (fun n r _ hn b hb => hall b (hlt n r b hn hb))
    (fun n hc => by simp only [not_or] at hc; simp [hc.1, hc.2]) (fun n hc => by simp only [not_or] at hc; simp [hc.1]) (fun n hc => by simp only [not_or] at hc; simp [hc.1])
    (fun n r' hc hr' => by
      by_cases e : n = d
      · subst e; simp only [if_true, Option.some.injEq] at hr'; subst hr'; simpa using hr
      · have := hc.resolve_left e; simp [e, this] at hr')
    (fun n r' b hc hr' hb => by
      by_cases e : n = d
      · subst e
        simp only [if_true] at hb
        rcases hS1 b hb with hh | ⟨m, hm, hb⟩
        · exact .inl hh
        · obtain ⟨r2, hr2⟩ := hms m hm; exact .inr ⟨m, r2, .inr hm, hr2, hb⟩
      · have := hc.resolve_left e; simp [e, this] at hr')
    (fun n m r1 r2 b hc hc' h1 h2 hne _ _ => by
      by_cases e : n = d
      · by_cases e' : m = d
        · exact hne (e.trans e'.symm)
        · have := hc'.resolve_left e'; simp [e', this] at h2
      · have := hc.resolve_left e; simp [e, this] at h1)
    (fun n r' v' hc hr' hv' => by
      by_cases e : n = d
      · subst e; rw [hr0] at hv'; cases hv'
      · have := hc.resolve_left e; simp [e, this] at hr')
    (kill ms) (kill ms)
    (fun n p v' hc hv' => by
      by_cases e : n ∈ ms
      · simp [kill, e]
      · have e' := hc.resolve_right e
        subst e'
        rw [VR_rf] at hv'
        obtain ⟨r', hr', _⟩ := hv'
        rw [hd] at hr'; cases hr')
    (fun n p o v' hc hv' => by
      by_cases e : n ∈ ms
      · simp [kill, e]
      · have e' := hc.resolve_right e
        subst e'
        rw [VR_pt] at hv'
        obtain ⟨r', b, o', hr', _⟩ := hv'
        rw [hd] at hr'; cases hr')
    (fun n p hc => by simp only [not_or] at hc; simp [kill, hc.2]) (fun n p hc => by simp only [not_or] at hc; simp [kill, hc.2])
  exact key
end Go.Eng

set_option linter.unusedSimpArgs false
set_option linter.unusedVariables false
namespace Go.Eng
open Go.RowKit
variable {P : Program} {T : Nat → Option TI}

theorem FrOK.fresh {N : Nat} {fr : Fr} (h : FrOK P N fr) {d : Nat} (hd : d < N) : fr.rv0 (rootName d) = none := by
  cases e : fr.rv0 (rootName d) with
  | none => rfl
  | some v => have := h.names _ _ e; have := h.small; unfold rootName at *; omega

theorem cell_alloc {w : World} {arr : Array Value} {ty j v} (h : arr.toList[j]? = some v) : (w.alloc (.cells arr ty)).cell? ⟨w.heap.size, 0 + j, none⟩ = some v := by
  simp only [Nat.zero_add, World.cell?_alloc_new]
  simpa using h
theorem heap_alloc_new {w : World} {o : Obj} : (w.alloc o).heap[w.heap.size]? = some o := by show (w.heap.push o)[w.heap.size]? = some o; simp
theorem heap_alloc_old {w : World} {o : Obj} (b : Nat) (h : b < w.heap.size) : (w.alloc o).heap[b]? = w.heap[b]? := Below.heap_alloc w o b h
theorem agr_alloc {w : World} {o : Obj} {X : Nat → Prop} (h : ∀ b, X b → b < w.heap.size) : Agr w (w.alloc o) X := fun b hb => heap_alloc_old b (h b hb)

theorem Rel0.newBox {N fr S rv st a w} (hf : FrOK P N fr) (h : Rel0 fr S rv st a w) {d : Nat} {cs : List PV} {arr : Array Value} {ms : List Nat} {ty : Nat} (hd : d < N) (hσ : st.σ (rootName d) = none)
    (hr : RVs w fr.X cs arr.toList (fun b => ∃ n ∈ ms, S n b)) (hms : ∀ n ∈ ms, ∃ t, st.σ n = some (.sv t)) :
    Rel fr (((st.move ms).new (rootName d) (.bx cs)).put (some d) (.pt (rootName d) [] 0)) (a.put (some d) (.pointer (some ⟨w.heap.size, 0, none⟩))) (w.alloc (.cells arr ty)) := by
  have hSlt : ∀ b, (∃ n ∈ ms, S n b) → b < w.heap.size := by
    rintro b ⟨n, hn, hb⟩
    obtain ⟨t, ht⟩ := hms n hn
    exact (h.sout n _ b ht hb).1
  have hXlt : ∀ b, fr.X b → b < w.heap.size := fun b hb => Nat.lt_of_lt_of_le (h.xlt b (h.xy b hb)) h.size
  obtain ⟨S', rv', hR, hrv⟩ := h.create (w' := w.alloc (.cells arr ty)) (d := rootName d) (r := .bx cs) (v := .pointer (some ⟨w.heap.size, 0, none⟩)) (ms := ms)
    (S1 := fun b => b = w.heap.size ∨ ∃ n ∈ ms, S n b) rfl ⟨rfl, Nat.le_refl _⟩ rfl (by simp) (fun b hb => heap_alloc_old b hb) hσ (fun n hn => let ⟨t, ht⟩ := hms n hn; ⟨_, ht⟩)
    ⟨w.heap.size, arr, ty, rfl, .inl rfl, heap_alloc_new, by simpa using RVs_length _ _ _ hr,
      RC_of_RVs cs arr.toList 0 _ (RVs_congr (agr_alloc hXlt) cs arr.toList (fun b => ∃ n ∈ ms, S n b) _ (agr_alloc hSlt) (fun b hb => ⟨.inr hb, fun e => by have := hSlt b hb; omega⟩) hr) (fun j v hj => cell_alloc hj)⟩
    (fun b hb => hb.elim (fun e => .inl (by simp [e])) .inr) (hf.fresh hd)
  refine ⟨S', rv', hR.put (fun x hx => by cases hx; exact hf.n ▸ hd) ?_⟩
  rw [VR_pt]
  exact ⟨.bx cs, w.heap.size, 0, by simp [St.new], by rw [hrv]; rfl, rfl⟩

theorem RVs_zero {w Z} {S : Nat → Prop} : ∀ cs : List PV, (∀ c ∈ cs, zok c = true) → RVs w Z cs (cs.map zval) S
  | [], _ => rfl
  | c :: cs, h => by
    refine ⟨zval c, _, fun _ => False, S, rfl, ⟨fun _ h => h.elim, fun _ h => h, fun _ h _ => h⟩, ?_, ?_, RVs_zero cs (fun c' hc => h c' (List.mem_cons_of_mem _ hc))⟩
    · have := h c (by simp)
      cases c with
      | sc v => exact this
      | _ => rfl
    · have := h c (by simp)
      cases c with
      | sc v => rw [RV_sc]; rfl
      | sl f k es =>
        cases es with
        | nil => simp [zok] at this; subst this; rw [RV_ow]; exact .inl ⟨rfl, rfl⟩
        | cons e es => simp [zok] at this
      | _ => simp [zok] at this

theorem run_zeroValue {t i} (h : TIok P t i) (w : World) : ∃ z, (zeroValue t).run P w = .ok z w ∧ z.cells.toList = i.zero.map zval ∧ (∀ c ∈ i.zero, zok c = true) := by
  obtain ⟨inf, z, h1, h2, h3, h4, h5, _⟩ := h.inf
  exact ⟨z, by simp [zeroValue, typeInfo, h1, h3], h4, h5⟩

def mkEl (i : TI) (cs : List PV) : PV :=
  if i.agg then .ag cs else match cs with
    | [c] => c
    | _ => .xx
def takeEls (st : St) (i : TI) : List V → Option (List PV × List Nat)
  | [] => some ([], [])
  | x :: xs => (takeV st i x).bind fun q => (takeEls st i xs).bind fun q' => some (mkEl i q.1 :: q'.1, q.2 ++ q'.2)

def REs (w : World) (Z : Nat → Prop) (i : TI) : List PV → List (List Value) → (Nat → Prop) → Prop
  | [], vss, _ => vss = []
  | e :: es, vss, S => ∃ vs vss' S1 S2 cs, vss = vs :: vss' ∧ Sep S S1 S2 ∧ e = mkEl i cs ∧ (∀ c ∈ cs, c.isAg = false) ∧ cs.length = i.zero.length ∧ RVs w Z cs vs S1 ∧ REs w Z i es vss' S2
theorem takeEls_ok {fr S rv st a w} (h : Rel0 fr S rv st a w) {i : TI} : ∀ (xs : List V) (vs : List Value) (es : List PV) (ms : List Nat), VRs w fr.X st.σ rv xs vs → takeEls st i xs = some (es, ms) → ms.Nodup →
    REs w fr.X i es (vs.map fun v => v.cells.toList) (fun b => ∃ n ∈ ms, S n b) ∧ (∀ n ∈ ms, ∃ t, st.σ n = some (.sv t))
  | [], vs, es, ms, hx, ht, _ => by
    simp only [takeEls, Option.some.injEq, Prod.mk.injEq] at ht; obtain ⟨rfl, rfl⟩ := ht
    rw [VRs_nil] at hx; subst hx
    exact ⟨rfl, by simp⟩
  | x :: xs, vs, es, ms, hx, ht, hnd => by
    simp only [takeEls, Option.bind_eq_some_iff, Option.some.injEq, Prod.mk.injEq] at ht
    obtain ⟨⟨cs, m1⟩, h1, ⟨es', m2⟩, h2, rfl, rfl⟩ := ht
    rw [VRs_cons] at hx
    obtain ⟨v, vs', rfl, hx1, hx2⟩ := hx
    rw [List.nodup_append] at hnd
    obtain ⟨r1, a1, b1, l1⟩ := takeV_ok h hx1 h1 hnd.1
    obtain ⟨r2, b2⟩ := takeEls_ok h xs vs' es' m2 hx2 h2 hnd.2.1
    refine ⟨⟨v.cells.toList, _, _, _, cs, rfl, ⟨?_, ?_, ?_⟩, rfl, a1, l1, r1, r2⟩, ?_⟩
    · rintro b ⟨n, hn, hb⟩; exact ⟨n, List.mem_append.2 (.inl hn), hb⟩
    · rintro b ⟨n, hn, hb⟩; exact ⟨n, List.mem_append.2 (.inr hn), hb⟩
    · rintro b ⟨n, hn, hb⟩ ⟨m, hm, hb'⟩
      obtain ⟨t, hσ⟩ := b1 n hn
      obtain ⟨t', hσ'⟩ := b2 m hm
      exact h.sdis n m _ _ b hσ hσ' (hnd.2.2 n hn m hm) hb hb'
    · intro n hn
      exact (List.mem_append.1 hn).elim (b1 n) (b2 n)
theorem REs_congr {w w' : World} {Z : Nat → Prop} {i : TI} (hz : Agr w w' Z) : ∀ (es : List PV) (vs : List (List Value)) (S S' : Nat → Prop), Agr w w' S → (∀ x, S x → S' x) → REs w Z i es vs S → REs w' Z i es vs S'
  | [], vs, S, S', _, _, h => h
  | e :: es, vs, S, S', hs, hS, h => by
    obtain ⟨v, vs', S1, S2, cs, rfl, hsep, he, ha, hl, h1, h2⟩ := h
    exact ⟨v, vs', S1, S2, cs, rfl, hsep.mono hS, he, ha, hl, RVs_congr hz cs v S1 S1 (fun x h => hs x (hsep.1 x h)) (fun _ h => h) h1, REs_congr hz es vs' S2 S2 (fun x h => hs x (hsep.2.1 x h)) (fun _ h => h) h2⟩
theorem RN_mkEl {w Z i cs b o S} {vs : List Value} (ha : ∀ c ∈ cs, c.isAg = false) (hl : cs.length = i.zero.length) (hk : i.agg = false → i.zero.length = 1) (h : RVs w Z cs vs S) (hc : ∀ j v, vs[j]? = some v → w.cell? ⟨b, o + j, none⟩ = some v) :
    RN w Z (mkEl i cs) b o i.zero.length S := by
  have hRC := RC_of_RVs cs vs o S h hc
  unfold mkEl
  split
  · exact ⟨hl, hRC⟩
  · rename_i hagg
    have h1 := hk (by simpa using hagg)
    match cs, ha, hl, hRC with
    | [c], ha, hl, hRC =>
      simp only
      rw [RN_cell (ha c (by simp))]
      rw [RC_cons] at hRC
      obtain ⟨S1, S2, hsep, ⟨v, hv, hr⟩, _⟩ := hRC
      exact ⟨h1, v, hv, RV_mono hsep.1 hr⟩
    | [], ha, hl, hRC => simp at hl; omega
    | _ :: _ :: _, ha, hl, hRC => simp at hl; omega
theorem RE_of_REs {w Z i b} (hk : i.agg = false → i.zero.length = 1) : ∀ (es : List PV) (vss : List (List Value)) (o : Nat) (S : Nat → Prop), REs w Z i es vss S →
    (∀ j v, vss.flatten[j]? = some v → w.cell? ⟨b, o + j, none⟩ = some v) → RE w Z es b o i.zero.length S
  | [], vss, o, S, _, _ => by rw [RE_nil]; trivial
  | e :: es, vss, o, S, h, hc => by
    obtain ⟨vs, vss', S1, S2, cs, rfl, hsep, rfl, ha, hl, h1, h2⟩ := h
    have hlen := RVs_length _ _ _ h1
    rw [RE_cons]
    refine ⟨S1, S2, hsep, RN_mkEl ha hl hk h1 (fun j v hj => hc j v ?_), RE_of_REs hk es vss' (o + i.zero.length) S2 h2 (fun j v hj => ?_)⟩
    · simp only [List.flatten_cons]
      rw [List.getElem?_append_left (by rcases Nat.lt_or_ge j vs.length with h | h; exact h; simp [List.getElem?_eq_none h] at hj)]; exact hj
    · have := hc (i.zero.length + j) v (by
        simp only [List.flatten_cons]
        rw [List.getElem?_append_right (by omega)]
        rw [show i.zero.length + j - vs.length = j by omega]; exact hj)
      rwa [show o + i.zero.length + j = o + (i.zero.length + j) by omega]
theorem REs_length {w Z i} : ∀ (es : List PV) (vss : List (List Value)) (S : Nat → Prop), REs w Z i es vss S → vss.length = es.length ∧ vss.flatten.length = es.length * i.zero.length
  | [], vss, S, h => by simp [REs] at h; simp [h]
  | e :: es, vss, S, h => by
    obtain ⟨vs, vss', S1, S2, cs, rfl, hsep, rfl, ha, hl, h1, h2⟩ := h
    obtain ⟨l1, l2⟩ := REs_length es vss' S2 h2
    have := RVs_length _ _ _ h1
    simp [l1, l2, Nat.add_mul]; omega

theorem Rel0.newRow {N fr S rv st a w} (hf : FrOK P N fr) (h : Rel0 fr S rv st a w) {d : Nat} {i : TI} {es : List PV} {vss : List (List Value)} {arr : Array Value} {cap : Nat} {ms : List Nat} {ty : Nat} (hd : d < N) (hσ : st.σ (rootName d) = none)
    (hk : i.agg = false → i.zero.length = 1) (hr : REs w fr.X i es vss (fun b => ∃ n ∈ ms, S n b)) (hms : ∀ n ∈ ms, ∃ t, st.σ n = some (.sv t))
    (harr : ∀ (j : Nat) (v : Value), vss.flatten[j]? = some v → arr.toList[j]? = some v) (hcap : es.length ≤ cap) (hsz : arr.size = cap * i.zero.length) :
    Rel fr (((st.move ms).new (rootName d) (.sv (.sl false i.zero.length es))).put (some d) (.rf (rootName d) [])) (a.put (some d) (.slice (some ⟨w.heap.size, 0, none⟩) es.length cap)) (w.alloc (.cells arr ty)) := by
  have hSlt : ∀ b, (∃ n ∈ ms, S n b) → b < w.heap.size := by
    rintro b ⟨n, hn, hb⟩
    obtain ⟨t, ht⟩ := hms n hn
    exact (h.sout n _ b ht hb).1
  have hXlt : ∀ b, fr.X b → b < w.heap.size := fun b hb => Nat.lt_of_lt_of_le (h.xlt b (h.xy b hb)) h.size
  obtain ⟨S', rv', hR, hrv⟩ := h.create (w' := w.alloc (.cells arr ty)) (d := rootName d) (r := .sv (.sl false i.zero.length es)) (v := .slice (some ⟨w.heap.size, 0, none⟩) es.length cap) (ms := ms)
    (S1 := fun b => b = w.heap.size ∨ ∃ n ∈ ms, S n b) rfl ⟨rfl, Nat.le_refl _⟩ rfl (by simp) (fun b hb => heap_alloc_old b hb) hσ (fun n hn => let ⟨t, ht⟩ := hms n hn; ⟨_, ht⟩)
    ⟨rfl, by
      rw [RV_ow]
      refine .inr ⟨w.heap.size, cap, arr, ty, rfl, hcap, .inl rfl, heap_alloc_new, hsz, ?_⟩
      refine RE_of_REs hk es vss 0 _ (REs_congr (agr_alloc hXlt) es vss (fun b => ∃ n ∈ ms, S n b) _ (agr_alloc hSlt) (fun b hb => ⟨.inr hb, fun e => by have := hSlt b hb; omega⟩) hr) (fun j v hj => cell_alloc (harr j v hj))⟩
    (fun b hb => hb.elim (fun e => .inl (by simp [e])) .inr) (hf.fresh hd)
  refine ⟨S', rv', hR.put (fun x hx => by cases hx; exact hf.n ▸ hd) ?_⟩
  rw [VR_rf]
  exact ⟨_, by simp [St.new]; rfl, by simp [rAt, hrv], false, _, _, rfl⟩

theorem size_pos_of_TI {t i} (h : TIok P t i) : i.agg = false → i.zero.length = 1 := by
  intro ha
  obtain ⟨inf, z, _, _, _, h4, _, _, h6⟩ := h.inf
  have := h6 ha
  have := congrArg Array.toList this
  rw [h4] at this
  have := congrArg List.length this
  simpa using this

theorem fill_dense {k : Nat} : ∀ (vs : List Value) (j : Nat) (arr : Array Value), (∀ v ∈ vs, v.cells.size = k) → (j + vs.length) * k ≤ arr.size →
    ∃ arr', Instr.fill (fun i => some (i * k, k)) arr ((vs.zipIdx j).map fun q => (q.2, q.1)) = some arr' ∧ arr'.toList = arr.toList.take (j * k) ++ (vs.map fun v => v.cells.toList).flatten ++ arr.toList.drop ((j + vs.length) * k) ∧ arr'.size = arr.size
  | [], j, arr, _, _ => ⟨arr, by simp [Instr.fill], by simp, rfl⟩
  | v :: vs, j, arr, hv, hle => by
    simp only [List.length_cons] at hle
    have hv0 := hv v (by simp)
    have e1 : (j + (vs.length + 1)) * k = j * k + k + vs.length * k := by rw [Nat.add_mul, Nat.add_mul]; omega
    have hset := set_range (j * k) v.cells.toList 0 arr (by simp only [Array.length_toList]; omega)
    rw [← Array.toList_zipIdx] at hset
    have hset' : (v.cells.zipIdx.foldl (fun a q => a.setIfInBounds (j * k + q.2) q.1) arr).toList = arr.toList.take (j * k) ++ v.cells.toList ++ arr.toList.drop (j * k + k) := by
      rw [← Array.foldl_toList, hset]; simp [hv0]
    have hsz : (v.cells.zipIdx.foldl (fun a q => a.setIfInBounds (j * k + q.2) q.1) arr).size = arr.size := by
      rw [← Array.length_toList, hset']; simp [hv0]; omega
    obtain ⟨arr', hf, hl, hs⟩ := fill_dense vs (j + 1) (v.cells.zipIdx.foldl (fun a q => a.setIfInBounds (j * k + q.2) q.1) arr) (fun u hu => hv u (List.mem_cons_of_mem _ hu)) (by rw [hsz]; rw [show j + 1 + vs.length = j + (vs.length + 1) by omega]; exact hle)
    refine ⟨arr', ?_, ?_, hs.trans hsz⟩
    · simp only [List.zipIdx_cons, List.map_cons, Instr.fill]
      rw [if_neg (by simp only [Bool.or_eq_true, decide_eq_true_eq]; omega)]
      exact hf
    · rw [hl, hset']
      have e2 : (j + 1) * k = j * k + k := by rw [Nat.add_mul]; omega
      have e3 : (j + 1 + vs.length) * k = j * k + k + vs.length * k := by rw [Nat.add_mul, Nat.add_mul]; omega
      have t1 : (arr.toList.take (j * k)).length = j * k := by simp; omega
      rw [e2, List.length_cons, e1, e3]
      rw [List.take_append_of_le_length (by simp [hv0]; omega), List.take_of_length_le (by simp [hv0]; omega)]
      rw [List.drop_append, List.drop_eq_nil_of_le (by simp [hv0]; omega)]
      simp only [List.length_append, t1, Array.length_toList, hv0, List.nil_append, List.drop_drop, List.map_cons, List.flatten_cons, List.append_assoc]
      congr 3
      rw [show j * k + k + (j * k + k + vs.length * k - (j * k + k)) = j * k + k + vs.length * k by omega]
end Go.Eng
