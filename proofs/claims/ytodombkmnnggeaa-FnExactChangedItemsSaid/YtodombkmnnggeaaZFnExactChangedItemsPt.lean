import Derived.Test.YtodombkmnnggeaaZFnExactChangedItemsQx0
import Derived.Test.YtodombkmnnggeaaZFnExactChangedItemsB1
import Derived.Test.YtodombkmnnggeaaZFnExactChangedItemsB2
import Derived.Test.YtodombkmnnggeaaZFnExactChangedItemsB3
import Derived.Test.YtodombkmnnggeaaZFnExactChangedItemsPh
namespace Go.Proofs.Ytodombkmnnggeaa.Pt
open Go.RowKit Go.Proofs.Ytodombkmnnggeaa.Q Go.Proofs.YtodombkmnnggeaaW.PrintWords Go.Proofs.Ytodombkmnnggeaa.Pl

theorem has_text (n : Int) (h : n ≤ 1099511627776) : Has (fun _ => True) (fun k => laws_markText.f k n) := by
  have key : ∀ (d : Nat) (n : Int) (s : ByteArray), n.toNat ≤ d → n ≤ 1099511627776 → s.size + n.toNat ≤ 2199023255552 → Has (fun _ => True) (fun k => laws_markText.l0 k n s) := by
    intro d
    induction d with
    | zero =>
      intro n s hd _ hs
      refine Has.succ ?_
      simp only [laws_markText.l0]
      exact Has.neg (by omega) (Has.pos (by omega) (Has.some trivial))
    | succ d ih =>
      intro n s hd hn hs
      refine Has.succ ?_
      simp only [laws_markText.l0]
      refine Has.ite (fun hp => ?_) (fun _ => Has.pos (by omega) (Has.some trivial))
      refine Has.opaque (fun b : List Int => b.length = 1) rfl (fun b hb => ?_)
      have e : (strOfNums b).size = 1 := by rw [strOfNums_size, hb]
      have e1 : n.tdiv 10 = n / 10 := Int.tdiv_eq_ediv_of_nonneg (by omega)
      have e2 : wrap64 (n / 10) = n / 10 := by unfold wrap64; omega
      rw [e1, e2]
      refine Has.pos (by omega) (ih _ _ (by omega) (by omega) ?_)
      have e3 : (strOfNums b ++ s).size = 1 + s.size := by rw [ByteArray.size_append, e]
      rw [e3]
      omega
  unfold laws_markText.f
  refine Has.ite (fun _ => Has.some trivial) (fun _ => ?_)
  exact key _ n _ (Nat.le_refl _) h (by simp [ByteArray.size]; omega)
noncomputable def mt (n : Int) : ByteArray := open Classical in if h : ∃ s, Ev (fun k => laws_markText.f k n) s then h.choose else ByteArray.empty
theorem markText (n : Int) (h : n ≤ 1099511627776) : Ev (fun k => laws_markText.f k n) (mt n) := by
  obtain ⟨s, _, hs⟩ := has_text n h
  have hx : ∃ s, Ev (fun k => laws_markText.f k n) s := ⟨s, hs⟩
  unfold mt
  rw [dif_pos hx]
  exact hx.choose_spec
end Go.Proofs.Ytodombkmnnggeaa.Pt
