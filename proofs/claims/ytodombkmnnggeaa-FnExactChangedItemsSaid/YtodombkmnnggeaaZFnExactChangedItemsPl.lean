import Derived.Test.YtodombkmnnggeaaZFnExactChangedItemsWWords
import Derived.Test.YtodombkmnnggeaaZFnExactChangedItemsWMore
namespace Go.Proofs.YtodombkmnnggeaaW.PrintWords
theorem Ev.pos {α : Type} {c : Prop} [Decidable c] {f g : Nat → Option α} {r : α} (h : c) (hf : Ev f r) : Ev (fun k => if c then f k else g k) r := by
  obtain ⟨K, hK⟩ := hf
  exact ⟨K, fun k hk => by show (if c then f k else g k) = some r; rw [if_pos h]; exact hK k hk⟩
theorem Ev.neg {α : Type} {c : Prop} [Decidable c] {f g : Nat → Option α} {r : α} (h : ¬ c) (hg : Ev g r) : Ev (fun k => if c then f k else g k) r := by
  obtain ⟨K, hK⟩ := hg
  exact ⟨K, fun k hk => by show (if c then f k else g k) = some r; rw [if_neg h]; exact hK k hk⟩
theorem Ev.ite {α : Type} {c : Prop} [Decidable c] {f g : Nat → Option α} {r : α} (hf : c → Ev f r) (hg : ¬ c → Ev g r) : Ev (fun k => if c then f k else g k) r := by
  by_cases h : c
  · exact Ev.pos h (hf h)
  · exact Ev.neg h (hg h)
theorem Ev.const {α : Type} {o : Option α} {r : α} (h : o = some r) : Ev (fun _ => o) r := ⟨0, fun _ _ => h⟩
theorem Ev.to {α : Type} {g : Nat → Option α} {r r' : α} (h : Ev g r) (e : r = r') : Ev g r' := e ▸ h
theorem Ev.bindC {α β : Type} {o : Option α} {f : Nat → α → Option β} {a : α} {r : β} (h : o = some a) (k : Ev (fun n => f n a) r) : Ev (fun n => o.bind (f n)) r := Ev.bind (Ev.const h) k
theorem Ev.succ {α : Type} {g : Nat → Option α} {r : α} (h : Ev (fun k => g (k + 1)) r) : Ev g r := Ev.step (fun _ => rfl) h
end Go.Proofs.YtodombkmnnggeaaW.PrintWords
namespace Go.Proofs.Ytodombkmnnggeaa.Pl
open Go.RowKit Go.Proofs.YtodombkmnnggeaaW.PrintWords

theorem ev_loop {ρ S : Type} (L : Nat → S → Nat → Option ρ) (n : Nat) (post : Nat → S → ρ) (inv : Nat → S → Prop) (hn : ∀ s, inv n s → Ev (L n s) (post n s))
    (step : ∀ i s, i < n → inv i s → (∀ s', inv (i + 1) s' → Ev (L (i + 1) s') (post (i + 1) s')) → Ev (L i s) (post i s)) : ∀ i s, i ≤ n → inv i s → Ev (L i s) (post i s) := by
  have key : ∀ d i s, n - i = d → i ≤ n → inv i s → Ev (L i s) (post i s) := by
    intro d
    induction d with
    | zero =>
      intro i s hd hi hs
      obtain rfl : i = n := by omega
      exact hn s hs
    | succ d ih =>
      intro i s hd hi hs
      exact step i s (by omega) hs (fun s' hs' => ih (i + 1) s' (by omega) (by omega) hs')
  exact fun i s hi hs => key _ i s rfl hi hs
theorem wrap_id {x : Int} (h1 : -9223372036854775808 ≤ x) (h2 : x < 9223372036854775808) : wrap64 x = x := by unfold wrap64; omega
theorem wrap_succ {i n : Nat} (h : i < n) (hn : n ≤ 9223372036854775807) : wrap64 ((i : Int) + 1) = ((i + 1 : Nat) : Int) := by unfold wrap64; omega
theorem getD_at {α : Type} {l : List α} {i : Nat} {d : α} (h : i < l.length) : l.getD ((i : Int)).toNat d = l[i] := by
  rw [Int.toNat_natCast, List.getD_eq_getElem?_getD, List.getElem?_eq_getElem h]
  rfl
theorem take_set_drop {α : Type} (acc l : List α) (i : Nat) (hi : i < l.length) (hl : acc.length = l.length) : (acc.set i l[i]).take (i + 1) ++ l.drop (i + 1) = acc.take i ++ l.drop i := by
  have h1 : (acc.set i l[i]).take (i + 1) = acc.take i ++ [l[i]] := by
    rw [List.take_succ_eq_append_getElem (by rw [List.length_set]; omega)]
    congr 1
    · rw [List.take_set_of_le (Nat.le_refl _)]
    · simp
  rw [h1, List.append_assoc]
  congr 1
  rw [List.drop_eq_getElem_cons hi]
  rfl
end Go.Proofs.Ytodombkmnnggeaa.Pl
namespace Go.Proofs.YtodombkmnnggeaaW.PrintWords
def Both {α : Type} (p : α → Prop) (g f : Nat → Option α) : Prop := ∃ v, p v ∧ Ev g v ∧ Ev f v
theorem Both.some {α : Type} {p : α → Prop} {v : α} (h : p v) : Both p (fun _ => some v) (fun _ => some v) := ⟨v, h, Ev.now v, Ev.now v⟩
theorem Both.succ {α : Type} {p : α → Prop} {g f : Nat → Option α} (h : Both p (fun k => g (k + 1)) (fun k => f (k + 1))) : Both p g f := by
  obtain ⟨v, hv, h1, h2⟩ := h
  exact ⟨v, hv, Ev.succ h1, Ev.succ h2⟩
theorem Both.posL {α : Type} {p : α → Prop} {c : Prop} [Decidable c] {a b f : Nat → Option α} (h : c) (hb : Both p a f) : Both p (fun k => if c then a k else b k) f := by
  obtain ⟨v, hv, h1, h2⟩ := hb
  exact ⟨v, hv, Ev.pos h h1, h2⟩
theorem Both.negL {α : Type} {p : α → Prop} {c : Prop} [Decidable c] {a b f : Nat → Option α} (h : ¬ c) (hb : Both p b f) : Both p (fun k => if c then a k else b k) f := by
  obtain ⟨v, hv, h1, h2⟩ := hb
  exact ⟨v, hv, Ev.neg h h1, h2⟩
theorem Both.posR {α : Type} {p : α → Prop} {c : Prop} [Decidable c] {a b g : Nat → Option α} (h : c) (hb : Both p g a) : Both p g (fun k => if c then a k else b k) := by
  obtain ⟨v, hv, h1, h2⟩ := hb
  exact ⟨v, hv, h1, Ev.pos h h2⟩
theorem Both.negR {α : Type} {p : α → Prop} {c : Prop} [Decidable c] {a b g : Nat → Option α} (h : ¬ c) (hb : Both p g b) : Both p g (fun k => if c then a k else b k) := by
  obtain ⟨v, hv, h1, h2⟩ := hb
  exact ⟨v, hv, h1, Ev.neg h h2⟩
theorem Both.bindL {α β : Type} {p : β → Prop} {g : Nat → Option α} {G : Nat → α → Option β} {F : Nat → Option β} {a : α} (h : Ev g a) (hb : Both p (fun k => G k a) F) : Both p (fun k => (g k).bind (G k)) F := by
  obtain ⟨v, hv, h1, h2⟩ := hb
  exact ⟨v, hv, Ev.bind h h1, h2⟩
theorem Both.bindR {α β : Type} {p : β → Prop} {f : Nat → Option α} {F : Nat → α → Option β} {G : Nat → Option β} {a : α} (h : Ev f a) (hb : Both p G (fun k => F k a)) : Both p G (fun k => (f k).bind (F k)) := by
  obtain ⟨v, hv, h1, h2⟩ := hb
  exact ⟨v, hv, h1, Ev.bind h h2⟩
theorem Both.bindCL {α β : Type} {p : β → Prop} {o : Option α} {G : Nat → α → Option β} {F : Nat → Option β} {a : α} (h : o = Option.some a) (hb : Both p (fun k => G k a) F) : Both p (fun k => o.bind (G k)) F := Both.bindL (Ev.const h) hb
theorem Both.bindCR {α β : Type} {p : β → Prop} {o : Option α} {F : Nat → α → Option β} {G : Nat → Option β} {a : α} (h : o = Option.some a) (hb : Both p G (fun k => F k a)) : Both p G (fun k => o.bind (F k)) := Both.bindR (Ev.const h) hb
theorem Both.bind {α β : Type} {q : α → Prop} {p : β → Prop} {g f : Nat → Option α} {G F : Nat → α → Option β} (h : Both q g f) (hb : ∀ v, q v → Both p (fun k => G k v) (fun k => F k v)) : Both p (fun k => (g k).bind (G k)) (fun k => (f k).bind (F k)) := by
  obtain ⟨v, hv, h1, h2⟩ := h
  obtain ⟨u, hu, h3, h4⟩ := hb v hv
  exact ⟨u, hu, Ev.bind h1 h3, Ev.bind h2 h4⟩
theorem Both.ite {α : Type} {p : α → Prop} {c d : Prop} [Decidable c] [Decidable d] {a b a' b' : Nat → Option α} (e : c ↔ d) (h1 : c → Both p a a') (h2 : ¬ c → Both p b b') : Both p (fun k => if c then a k else b k) (fun k => if d then a' k else b' k) := by
  by_cases h : c
  · exact Both.posL h (Both.posR (e.1 h) (h1 h))
  · exact Both.negL h (Both.negR (fun hd => h (e.2 hd)) (h2 h))
theorem Both.weaken {α : Type} {p q : α → Prop} {g f : Nat → Option α} (h : Both p g f) (hpq : ∀ v, p v → q v) : Both q g f := by
  obtain ⟨v, hv, h1, h2⟩ := h
  exact ⟨v, hpq v hv, h1, h2⟩
end Go.Proofs.YtodombkmnnggeaaW.PrintWords
