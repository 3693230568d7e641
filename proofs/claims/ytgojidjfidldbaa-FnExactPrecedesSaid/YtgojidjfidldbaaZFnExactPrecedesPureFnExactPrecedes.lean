/- Proved: for every two edits the law FnExactPrecedes comes to true. -/
import Derived.Test.YtgojidjfidldbaaZFnExactPrecedesB2
import Derived.Test.YtgojidjfidldbaaZFnExactPrecedesQo
import Derived.Test.YtgojidjfidldbaaZFnExactPrecedesPi
namespace Go.Proofs.Ytgojidjfidldbaa.Pure
open Go.RowKit Go.Proofs.Ytgojidjfidldbaa.Q Go.Proofs.YtgojidjfidldbaaW.PrintWords Go.Proofs.YtgojidjfidldbaaW.PrintLast Go.Proofs.Ytgojidjfidldbaa.Pl Go.Proofs.Ytgojidjfidldbaa.Pi

namespace Edits
theorem szEdit (c r : Int) (l : List Int) (b d : ByteArray) (a : Int) (h : l.length ≤ maxLen) (hb : b.size ≤ maxLen) (hd : d.size ≤ maxLen) (ha : 0 ≤ a) (ha' : a ≤ 1048576) :
    ∃ t, laws_szEdit.f c r l b d a = some t ∧ t ≤ 1048576 ∧ (0 ≤ t → l.length ≤ 1048576) := by
  obtain ⟨t, ht, hta, hl⟩ := szIntS l a h ha ha'
  unfold maxLen at hb hd
  unfold laws_szEdit.f
  rw [ht]
  simp only [Option.bind_some]
  by_cases h1 : t < 0
  · exact ⟨_, if_pos h1, by omega, by omega⟩
  · have hl := hl (by omega)
    rw [if_neg h1, wrap_id (x := t - (b.size : Int)) (by omega) (by omega)]
    by_cases h2 : t - (b.size : Int) < 0
    · exact ⟨_, if_pos h2, by omega, by omega⟩
    · rw [if_neg h2, wrap_id (x := t - (b.size : Int) - (d.size : Int)) (by omega) (by omega)]
      by_cases h3 : t - (b.size : Int) - (d.size : Int) < 0
      · exact ⟨_, if_pos h3, by omega, by omega⟩
      · exact ⟨_, if_neg h3, by omega, fun _ => hl⟩
theorem toEdit (c r : Int) (l : List Int) (b d : ByteArray) (h : l.length ≤ 1048576) : Ev (fun k => laws_toEdit.f k c r l b d) (c, r, l, b, d) := by
  unfold laws_toEdit.f
  exact Ev.bind (toIntS l (by omega)) (Ev.now _)
theorem eqEdit (c r : Int) (l : List Int) (b d : ByteArray) (h : l.length ≤ 1048576) : Ev (fun k => laws_eqEdit.f k c r l b d c r l b d) true := by
  unfold laws_eqEdit.f
  exact Ev.pos rfl (Ev.pos rfl (Ev.bind (eqIntS l (by omega)) (Ev.pos rfl (Ev.pos rfl (Ev.pos rfl (Ev.now _))))))

def sgn (a b : Int) : Int := if a < b then -1 else if a > b then 1 else 0
theorem sgn_zero (a b : Int) : sgn a b = 0 ↔ a = b := by
  unfold sgn
  split
  · constructor <;> intro h <;> omega
  · split
    · constructor <;> intro h <;> omega
    · constructor <;> intro h <;> omega
theorem cmpC (a b : Int) : cmp_Compare_int.f a b = some (sgn a b) := by
  unfold cmp_Compare_int.f cmp_isNaN_int.f sgn
  simp only [bne_self_eq_false, Option.bind_some]
  rw [if_neg (by simp), if_neg (by simp)]
  split
  · rfl
  · split <;> rfl
theorem cmpOr (c d : Int) : Ev (fun k => cmp_Or_int.f k [c, d]) (if c = 0 then d else c) := by
  unfold cmp_Or_int.f
  refine Ev.succ ?_
  simp only [cmp_Or_int.l0]
  refine Ev.pos (by simp) (Ev.pos (by omega) (Ev.pos (by simp) ?_))
  have w0 : wrap64 ((0 : Int) + 1) = 1 := by unfold wrap64; omega
  have w1 : wrap64 ((1 : Int) + 1) = 2 := by unfold wrap64; omega
  have r0 : rd [c, d] 0 = c := rfl
  have r1 : rd [c, d] 1 = d := rfl
  rw [r0, w0]
  refine Ev.ite (fun h => ?_) (fun h => (Ev.now _).to (by rw [if_neg h]))
  rw [if_pos h]
  refine Ev.succ ?_
  simp only [cmp_Or_int.l0]
  refine Ev.pos (by simp) (Ev.pos (by omega) (Ev.pos (by simp) ?_))
  rw [r1, w1]
  refine Ev.ite (fun h => ?_) (fun h => Ev.now _)
  refine Ev.succ ?_
  simp only [cmp_Or_int.l0]
  exact Ev.neg (by simp) ((Ev.now _).to h.symm)

theorem tail (a b : Int) (m : List Int) (hm : m.length ≤ 1048576) : ((impl_within.f a 0 (wrap64 ((m.length : Int) - 1))).bind fun t => (if t = true then (if 0 ≤ a then (if a < (m.length : Int) then (some (decide ((rd m a) ≥ b))) else (none)) else (none)) else (some false))) = some (decide (0 ≤ a ∧ a ≤ (m.length : Int) - 1) && decide (rd m a ≥ b)) := by
  have w : wrap64 ((m.length : Int) - 1) = (m.length : Int) - 1 := wrap_id (by omega) (by omega)
  unfold impl_within.f
  rw [w]
  by_cases h0 : a ≥ 0
  · rw [if_pos h0, Option.bind_some]
    by_cases h1 : a ≤ (m.length : Int) - 1
    · rw [if_pos (decide_eq_true h1), if_pos h0, if_pos (by omega), decide_eq_true (show 0 ≤ a ∧ a ≤ (m.length : Int) - 1 from ⟨h0, h1⟩), Bool.true_and]
    · rw [if_neg (by simp [h1]), decide_eq_false (show ¬ (0 ≤ a ∧ a ≤ (m.length : Int) - 1) from fun h => h1 h.2), Bool.false_and]
  · rw [if_neg h0, Option.bind_some, if_neg (by simp), decide_eq_false (show ¬ (0 ≤ a ∧ a ≤ (m.length : Int) - 1) from fun h => h0 h.1), Bool.false_and]

theorem tailS (a b : Int) (m : List Int) (hm : m.length ≤ 1048576) : ((spec_l1In.f a 0 (wrap64 ((m.length : Int) - 1))).bind fun t => (if t = true then (if 0 ≤ a then (if a < (m.length : Int) then (some (decide ((rd m a) ≥ b))) else (none)) else (none)) else (some false))) = some (decide (0 ≤ a ∧ a ≤ (m.length : Int) - 1) && decide (rd m a ≥ b)) := tail a b m hm

theorem precedes (a b : Int) (l : List Int) (s t : ByteArray) (c d : Int) (m : List Int) (u v : ByteArray) (hm : m.length ≤ 1048576) : ∃ x, spec_Precedes.f a b l s t c d m u v = some x ∧ Ev (fun k => impl_Precedes.f k a b l s t c d m u v) x := by
  have hc : Ev (fun k => impl_compareEdits.f k a b l s t c d m u v) (if sgn a c = 0 then sgn b d else sgn a c) := by
    unfold impl_compareEdits.f
    exact Ev.bindC (cmpC _ _) (Ev.bindC (cmpC _ _) (Ev.bind (cmpOr _ _) (Ev.now _)))
  have hz : (if sgn a c = 0 then sgn b d else sgn a c) = 0 ↔ a = c ∧ b = d := by
    by_cases h : sgn a c = 0
    · rw [if_pos h, sgn_zero]
      exact ⟨fun e => ⟨(sgn_zero a c).1 h, e⟩, fun e => e.2⟩
    · rw [if_neg h]
      exact ⟨fun e => absurd e h, fun e => absurd ((sgn_zero a c).2 e.1) h⟩
  unfold spec_Precedes.f spec_l22Precedes.f impl_Precedes.f
  by_cases h1 : a = c
  · by_cases h2 : b = d
    · refine ⟨false, by rw [if_pos h1, if_pos h2]; rfl, Ev.bind hc (Ev.pos (hz.2 ⟨h1, h2⟩) (Ev.now _))⟩
    · refine ⟨_, by rw [if_pos h1, if_neg h2, tailS a b m hm]; rfl, Ev.bind hc (Ev.neg (fun e => h2 (hz.1 e).2) (Ev.const (tail a b m hm)))⟩
  · refine ⟨_, by rw [if_neg h1, tailS a b m hm]; rfl, Ev.bind hc (Ev.neg (fun e => h1 (hz.1 e).1) (Ev.const (tail a b m hm)))⟩
end Edits

theorem FnExactPrecedes : ∀ (x0 : S32) (x1 : S32), wf32 x0 → wf32 x1 → ∃ k, laws_FnExactPrecedes.f k x0.f0 x0.f1 x0.f2 x0.f3 x0.f4 x1.f0 x1.f1 x1.f2 x1.f3 x1.f4 = some true := by
  intro x y hx hy
  obtain ⟨_, _, ⟨hx2, _⟩, hx3, hx4⟩ := hx
  obtain ⟨_, _, ⟨hy2, _⟩, hy3, hy4⟩ := hy
  refine Ev.rounds ?_
  unfold laws_FnExactPrecedes.f
  obtain ⟨t, ht, ht1, hb⟩ := Edits.szEdit x.f0 x.f1 x.f2 x.f3 x.f4 1048576 hx2 hx3 hx4 (by omega) (by omega)
  refine Ev.bindC ht (Ev.ite (fun _ => Ev.now _) (fun hn => Ev.succ ?_))
  have hb := hb (by omega)
  simp only [laws_FnExactPrecedes.j0]
  obtain ⟨u, hu, _, hc⟩ := Edits.szEdit y.f0 y.f1 y.f2 y.f3 y.f4 t hy2 hy3 hy4 (by omega) ht1
  refine Ev.bindC hu (Ev.ite (fun _ => Ev.now _) (fun hn => Ev.succ ?_))
  have hc := hc (by omega)
  simp only [laws_FnExactPrecedes.j1]
  obtain ⟨b, h1, h2⟩ := Edits.precedes x.f0 x.f1 x.f2 x.f3 x.f4 y.f0 y.f1 y.f2 y.f3 y.f4 hc
  have tx := Edits.toEdit x.f0 x.f1 x.f2 x.f3 x.f4 hb
  have ty := Edits.toEdit y.f0 y.f1 y.f2 y.f3 y.f4 hc
  refine Ev.bind tx (Ev.bind ty (Ev.bindC h1 (Ev.bind tx (Ev.bind ty (Ev.bind h2 (Ev.neg (by simp) (Ev.succ ?_)))))))
  simp only [laws_FnExactPrecedes.j2]
  refine Ev.bind tx (Ev.bind (Edits.eqEdit _ _ _ _ _ hb) (Ev.pos rfl (Ev.succ ?_)))
  simp only [laws_FnExactPrecedes.j3]
  exact Ev.bind ty (Ev.bind (Edits.eqEdit _ _ _ _ _ hc) (Ev.pos rfl (Ev.now _)))
end Go.Proofs.Ytgojidjfidldbaa.Pure
