/- What the registers' functions answer. -/
import Derived.Test.YtodombkmnnggeaaZFnExactItemNamesQx0
import Derived.Test.YtodombkmnnggeaaZFnExactItemNamesB1
import Derived.Test.YtodombkmnnggeaaZFnExactItemNamesB2
import Derived.Test.YtodombkmnnggeaaZFnExactItemNamesB3
import Derived.Test.YtodombkmnnggeaaZFnExactItemNamesB4
import Derived.Test.YtodombkmnnggeaaZFnExactItemNamesPq
namespace Go.Proofs.Ytodombkmnnggeaa.Pp
open Go.RowKit Go.Proofs.Ytodombkmnnggeaa.Q Go.Proofs.YtodombkmnnggeaaW.PrintWords Go.Proofs.Ytodombkmnnggeaa.Pl Go.Proofs.Ytodombkmnnggeaa.Pname Go.Proofs.Ytodombkmnnggeaa.Pr

theorem itemNames (l : List S70) (b : Bool) (ho : okE l) : Both (fun v => v.1.length ≤ 40) (fun k => spec_ItemNames.f k l b) (fun k => impl_ItemNames.f k l b) := by
  have hil := items_length l
  unfold spec_ItemNames.f impl_ItemNames.f impl_namesOf_at98.f
  refine Both.bindCL rfl (Both.bindL (specGood l ho) (Both.bindR (implReplayed l ho) (Both.ite Iff.rfl (fun hg => ?_) (fun _ => Both.some (by simp)))))
  refine Both.bindL (specPlay l ho) ?_
  rw [items_good hg]
  generalize items l = y at hil ⊢
  have key : ∀ (d i : Nat) (out : List ByteArray), y.length - i = d → i ≤ y.length → out.length ≤ i →
      Both (fun v => v.1.length ≤ 40) (fun k => spec_ItemNames.l0 k b out y (i : Int)) (fun k => (impl_namesOf_at98.l0 k out (y.map cv) ((y.map cv).length : Int) (i : Int) b).bind fun t => some (t, true)) := by
    intro d
    induction d with
    | zero =>
      intro i out hd hi hl
      refine Both.succ ?_
      simp only [spec_ItemNames.l0, impl_namesOf_at98.l0]
      refine Both.negL (by omega) (Both.bindR (Ev.neg (by simp; omega) (Ev.now _)) (Both.some ?_))
      show out.length ≤ 40
      omega
    | succ d ih =>
      intro i out hd hi hl
      have hi' : i < y.length := by omega
      have e := wrap_succ hi' (by omega)
      have hlen : ∀ s : ByteArray, (out ++ [s]).length ≤ i + 1 := fun s => by simp; exact hl
      have q : ∀ k, impl_namesOf_at98.l0 (k + 1) out (y.map cv) ((y.map cv).length : Int) (i : Int) b = if ((rd_T120 y (i : Int)).f2 == b) = true then impl_namesOf_at98.l0 k (out ++ [(rd_T120 y (i : Int)).f0]) (y.map cv) ((y.map cv).length : Int) ((i + 1 : Nat) : Int) b else impl_namesOf_at98.l0 k out (y.map cv) ((y.map cv).length : Int) ((i + 1 : Nat) : Int) b := by
        intro k
        simp only [impl_namesOf_at98.l0, impl_ItemNames_1_c.f]
        rw [if_pos (by simp; omega), if_pos (by omega), if_pos (by simp; omega), e, rdC hi', if_pos (show out.length < 8796093022208 by omega)]
        rfl
      refine Both.succ ?_
      simp only [spec_ItemNames.l0, q]
      rw [e]
      refine Both.posL (by omega) (Both.posL (by omega) ?_)
      have h1 : out.length < 8796093022208 := by omega
      by_cases c1 : ((rd_T120 y (i : Int)).f2 == b) = true
      · simp only [if_pos c1, if_pos h1]
        exact ih (i + 1) _ (by omega) (by omega) (hlen _)
      · simp only [if_neg c1]
        exact ih (i + 1) _ (by omega) (by omega) (by omega)
  exact key _ 0 [] rfl (Nat.zero_le _) (Nat.le_refl _)

end Go.Proofs.Ytodombkmnnggeaa.Pp
