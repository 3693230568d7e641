import Derived.Test.YtodombkmnnggeaaZFnExactChangedItemsPl
namespace Go.Proofs.YtodombkmnnggeaaW.PrintWords
def Has {α : Type} (p : α → Prop) (g : Nat → Option α) : Prop := ∃ v, p v ∧ Ev g v
theorem Has.some {α : Type} {p : α → Prop} {v : α} (h : p v) : Has p (fun _ => Option.some v) := ⟨v, h, Ev.now v⟩
theorem Has.of {α : Type} {p : α → Prop} {g : Nat → Option α} {v : α} (h : Ev g v) (hp : p v) : Has p g := ⟨v, hp, h⟩
theorem Has.succ {α : Type} {p : α → Prop} {g : Nat → Option α} (h : Has p (fun k => g (k + 1))) : Has p g := by
  obtain ⟨v, hv, h1⟩ := h
  exact ⟨v, hv, Ev.succ h1⟩
theorem Has.pos {α : Type} {p : α → Prop} {c : Prop} [Decidable c] {a b : Nat → Option α} (h : c) (hb : Has p a) : Has p (fun k => if c then a k else b k) := by
  obtain ⟨v, hv, h1⟩ := hb
  exact ⟨v, hv, Ev.pos h h1⟩
theorem Has.neg {α : Type} {p : α → Prop} {c : Prop} [Decidable c] {a b : Nat → Option α} (h : ¬ c) (hb : Has p b) : Has p (fun k => if c then a k else b k) := by
  obtain ⟨v, hv, h1⟩ := hb
  exact ⟨v, hv, Ev.neg h h1⟩
theorem Has.ite {α : Type} {p : α → Prop} {c : Prop} [Decidable c] {a b : Nat → Option α} (h1 : c → Has p a) (h2 : ¬ c → Has p b) : Has p (fun k => if c then a k else b k) := by
  by_cases h : c
  · exact Has.pos h (h1 h)
  · exact Has.neg h (h2 h)
theorem Has.bind {α β : Type} {q : α → Prop} {p : β → Prop} {g : Nat → Option α} {G : Nat → α → Option β} (h : Has q g) (hb : ∀ v, q v → Has p (fun k => G k v)) : Has p (fun k => (g k).bind (G k)) := by
  obtain ⟨v, hv, h1⟩ := h
  obtain ⟨u, hu, h2⟩ := hb v hv
  exact ⟨u, hu, Ev.bind h1 h2⟩
theorem Has.opaque {α β : Type} (P : α → Prop) {p : β → Prop} {a : α} {f : Nat → α → Option β} (h : P a) (k : ∀ b, P b → Has p (fun n => f n b)) : Has p (fun n => (Option.some a).bind (f n)) := k a h
theorem Has.weaken {α : Type} {p q : α → Prop} {g : Nat → Option α} (h : Has p g) (hpq : ∀ v, p v → q v) : Has q g := by
  obtain ⟨v, hv, h1⟩ := h
  exact ⟨v, hpq v hv, h1⟩
end Go.Proofs.YtodombkmnnggeaaW.PrintWords
namespace Go.Proofs.Ytodombkmnnggeaa.Pl
def allFr (P : Nat → Bool) (i : Nat) : Nat → Bool
  | 0 => true
  | n + 1 => P i && allFr P (i + 1) n
theorem allFr_step (P : Nat → Bool) {i n : Nat} (h : i < n) : allFr P i (n - i) = (P i && allFr P (i + 1) (n - (i + 1))) := by
  rw [show n - i = (n - (i + 1)) + 1 by omega]
  rfl
theorem allFr_end (P : Nat → Bool) (n : Nat) : allFr P n (n - n) = true := by rw [Nat.sub_self]; rfl
theorem allFr_congr (P Q : Nat → Bool) : ∀ (n i : Nat), (∀ j, i ≤ j → j < i + n → P j = Q j) → allFr P i n = allFr Q i n
  | 0, _, _ => rfl
  | n + 1, i, h => by
    show (P i && allFr P (i + 1) n) = (Q i && allFr Q (i + 1) n)
    rw [h i (Nat.le_refl _) (by omega), allFr_congr P Q n (i + 1) (fun j h1 h2 => h j (by omega) (by omega))]
end Go.Proofs.Ytodombkmnnggeaa.Pl
