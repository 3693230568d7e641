import Derived.Test.YtodombkmnnggeaaZFnExactChangedItemsQx0
import Derived.Test.YtodombkmnnggeaaZFnExactChangedItemsB1
import Derived.Test.YtodombkmnnggeaaZFnExactChangedItemsB2
import Derived.Test.YtodombkmnnggeaaZFnExactChangedItemsB3
import Derived.Test.YtodombkmnnggeaaZFnExactChangedItemsPch
namespace Go.Proofs.Ytodombkmnnggeaa.Pp
open Go.RowKit Go.Proofs.Ytodombkmnnggeaa.Q Go.Proofs.YtodombkmnnggeaaW.PrintWords Go.Proofs.Ytodombkmnnggeaa.Pl Go.Proofs.Ytodombkmnnggeaa.Pname Go.Proofs.Ytodombkmnnggeaa.Pr

theorem contains (o : List S120) (x : S120) (h : o.length ≤ 1048577) : Ev (fun k => impl_item_100.f k (o.map cv) x.f0 x.f1 x.f2) (decide (0 ≤ findFr (fun j => eqI x (rd_T120 o (j : Int))) 0 o.length)) := by
  have key := ev_loop (fun i (_ : Unit) k => impl_item_117.l0 k (o.map cv) ((o.map cv).length : Int) (i : Int) x.f0 x.f1 x.f2) o.length (fun i _ => findFr (fun j => eqI x (rd_T120 o (j : Int))) i (o.length - i)) (fun _ _ => True)
    (fun _ _ => by
      refine Ev.succ ?_
      simp only [impl_item_117.l0]
      rw [findFr_end]
      exact Ev.neg (by simp) (Ev.now _))
    (fun i _ hi _ ih => by
      refine Ev.succ ?_
      simp only [impl_item_117.l0]
      rw [findFr_step _ hi, wrap_succ hi (by omega), rdC hi]
      refine Ev.pos (by simpa using hi) (Ev.pos (by omega) (Ev.pos (by simpa using hi) ?_))
      refine Ev.ite (fun hc => (Ev.now _).to (by rw [if_pos (show eqI x (rd_T120 o (i : Int)) = true from hc)])) (fun hc => (ih () trivial).to (by rw [if_neg (show ¬ eqI x (rd_T120 o (i : Int)) = true from hc)])))
    0 () (Nat.zero_le _) trivial
  unfold impl_item_100.f impl_item_117.f
  refine Ev.bind (by simpa using key) (Ev.now _)

theorem changedItems (l : List S70) (n : Int) (ho : okE l) : Both (fun v => v.1.length ≤ 40) (fun k => spec_ChangedItems.f k l n) (fun k => impl_ChangedItems.f k l n) := by
  have hil := items_length l
  have sF : Ev (fun k => spec_ChangedItems.j0 k l n [] true) ([], false) := by
    refine Ev.succ ?_
    simp only [spec_ChangedItems.j0]
    exact Ev.pos trivial (Ev.now _)
  have iF : ∀ y, Ev (fun k => impl_ChangedItems.j0 k l n y true) ([], false) := by
    intro y
    refine Ev.succ ?_
    simp only [impl_ChangedItems.j0]
    exact Ev.pos trivial (Ev.now _)
  unfold spec_ChangedItems.f impl_ChangedItems.f
  refine Both.bindCL rfl (Both.bindL (specGood l ho) (Both.bindR (implReplayed l ho) (Both.ite Iff.rfl (fun hg => ?_) (fun _ => ⟨_, by simp, sF, iF _⟩))))
  refine Both.bindCL (l1In _ _ _) (Both.bindCR (within _ _ _) ?_)
  by_cases hc : 0 ≤ n ∧ n ≤ (l.length : Int)
  · rw [decide_eq_true hc]
    obtain ⟨g1, hk, ha⟩ := good_take hg n.toNat
    have hot : okE (l.take n.toNat) := ⟨by rw [List.length_take]; have := ho.1; omega, fun x hx => ho.2 x (List.mem_of_mem_take hx)⟩
    have ho40 := items_length (l.take n.toNat)
    have sp : Ev (fun k => spec_l21Play.f k (l.take n.toNat)) (items (l.take n.toNat), (play (l.take n.toNat) []).2) := (specPlay _ hot).to (by rw [← items_good g1])
    have sz : Ev (fun k => spec_l21Play.f k l) (items l, (play l []).2) := (specPlay _ ho).to (by rw [← items_good hg])
    have ip := implReplayed _ hot
    generalize items (l.take n.toNat) = o at hk ho40 sp ip
    generalize items l = z at hk ha hil sz ⊢
    have key : ∀ (d i : Nat) (out : List ByteArray), z.length - i = d → i ≤ z.length → out.length ≤ i →
        ∃ r : List ByteArray, r.length ≤ 40 ∧ Ev (fun k => spec_ChangedItems.l0 k out o z (i : Int)) (r, true) ∧ Ev (fun k => impl_namesOf_at99.l0 k out (z.map cv) ((z.map cv).length : Int) (i : Int) (o.map cv)) r := by
      intro d
      induction d with
      | zero =>
        intro i out hd hi hl
        refine ⟨out, by omega, Ev.succ ?_, Ev.succ ?_⟩
        · simp only [spec_ChangedItems.l0]
          exact Ev.neg (by omega) (Ev.now _)
        · simp only [impl_namesOf_at99.l0]
          exact Ev.neg (by simp; omega) (Ev.now _)
      | succ d ih =>
        intro i out hd hi hl
        have hi' : i < z.length := by omega
        have e := wrap_succ hi' (by omega)
        have hcont := contains o z[i] (by omega)
        rw [among hk ha i hi'] at hcont
        have hcl : ∀ b : Bool, (decide (i < o.length) && eqI z[i] (rd_T120 o (i : Int))) = b → Ev (fun k => impl_ChangedItems_1_c.f k (z[i]).f0 (z[i]).f1 (z[i]).f2 (o.map cv)) (!b) := fun b hb => by
          unfold impl_ChangedItems_1_c.f
          rw [hb] at hcont
          exact Ev.bind hcont (Ev.now _)
        by_cases hio : i < o.length
        · by_cases he : eqI z[i] (rd_T120 o (i : Int)) = true
          · obtain ⟨r, hr, h1, h2⟩ := ih (i + 1) out (by omega) (by omega) (by omega)
            refine ⟨r, hr, Ev.succ ?_, Ev.succ ?_⟩
            · simp only [spec_ChangedItems.l0]
              rw [e, rdI hi']
              refine Ev.pos (by omega) (Ev.neg (by omega) (Ev.pos (by omega) (Ev.pos (by omega) (Ev.neg ?_ h1))))
              unfold eqI at he
              simp only [Bool.and_eq_true, beq_iff_eq] at he
              obtain ⟨e1, e2, e3⟩ := he
              simp [e1, e2, e3]
            · simp only [impl_namesOf_at99.l0]
              rw [e, rdC hi', rdI hi']
              exact Ev.pos (by simp; omega) (Ev.pos (by omega) (Ev.pos (by simp; omega) (Ev.bind (hcl true (by rw [decide_eq_true hio, he]; rfl)) (Ev.neg (by simp) h2))))
          · obtain ⟨r, hr, h1, h2⟩ := ih (i + 1) (out ++ [(z[i]).f0]) (by omega) (by omega) (by simp; omega)
            refine ⟨r, hr, Ev.succ ?_, Ev.succ ?_⟩
            · simp only [spec_ChangedItems.l0]
              rw [e, rdI hi']
              refine Ev.pos (by omega) (Ev.neg (by omega) (Ev.pos (by omega) (Ev.pos (by omega) (Ev.pos ?_ (Ev.pos (by omega) h1)))))
              by_cases e1 : (rd_T120 o (i : Int)).f0.toList = (z[i]).f0.toList
              · by_cases e2 : (rd_T120 o (i : Int)).f1.toList = (z[i]).f1.toList
                · by_cases e3 : (rd_T120 o (i : Int)).f2 = (z[i]).f2
                  · refine absurd ?_ he
                    unfold eqI
                    simp [e1, e2, e3]
                  · simp [e1, e2, e3]
                · simp [e1, e2]
              · simp [e1]
            · simp only [impl_namesOf_at99.l0]
              rw [e, rdC hi', rdI hi']
              simp only [Bool.not_eq_true] at he
              exact Ev.pos (by simp; omega) (Ev.pos (by omega) (Ev.pos (by simp; omega) (Ev.bind (hcl false (by rw [he, Bool.and_false])) (Ev.pos rfl (Ev.pos (by omega) h2)))))
        · obtain ⟨r, hr, h1, h2⟩ := ih (i + 1) (out ++ [(z[i]).f0]) (by omega) (by omega) (by simp; omega)
          refine ⟨r, hr, Ev.succ ?_, Ev.succ ?_⟩
          · simp only [spec_ChangedItems.l0]
            rw [e, rdI hi']
            exact Ev.pos (by omega) (Ev.pos (by omega) (Ev.pos (by omega) (Ev.pos (by omega) h1)))
          · simp only [impl_namesOf_at99.l0]
            rw [e, rdC hi', rdI hi']
            exact Ev.pos (by simp; omega) (Ev.pos (by omega) (Ev.pos (by simp; omega) (Ev.bind (hcl false (by rw [decide_eq_false hio, Bool.false_and])) (Ev.pos rfl (Ev.pos (by omega) h2)))))
    obtain ⟨r, hr, h1, h2⟩ := key _ 0 [] rfl (Nat.zero_le _) (Nat.le_refl _)
    refine ⟨(r, true), hr, Ev.succ ?_, Ev.succ ?_⟩
    · simp only [spec_ChangedItems.j0]
      exact Ev.neg (by simp) (Ev.pos hc.1 (Ev.pos hc.2 (Ev.bind sp (Ev.bind sz h1))))
    · simp only [impl_ChangedItems.j0]
      refine Ev.neg (by simp) (Ev.pos hc.1 (Ev.pos hc.2 (Ev.bind ip ?_)))
      unfold impl_namesOf_at99.f
      exact Ev.bind h2 (Ev.now _)
  · rw [decide_eq_false hc]
    exact ⟨_, by simp, sF, iF _⟩
end Go.Proofs.Ytodombkmnnggeaa.Pp
