/- Basins and means. -/
import Derived.Test.YtgojidjfidldbaaZFnExactBasinsOfPf
import Derived.Test.YtgojidjfidldbaaZFnExactBasinsOfB4
namespace Go.Proofs.Ytgojidjfidldbaa.Pg
open Go.RowKit Go.Proofs.Ytgojidjfidldbaa.Q Go.Proofs.YtgojidjfidldbaaW.PrintWords Go.Proofs.YtgojidjfidldbaaW.PrintMore Go.Proofs.Ytgojidjfidldbaa.Pl Go.Proofs.Ytgojidjfidldbaa.Pi Go.Proofs.Ytgojidjfidldbaa.Ps Go.Proofs.Ytgojidjfidldbaa.Pn Go.Proofs.Ytgojidjfidldbaa.Pf

theorem basins {c r : Int} {l : List Int} (f : Fit c r l) : ∀ (d i : Nat) (out : List Int), l.length - i = d → i ≤ l.length → out.length = i →
    Both (fun v => v.1.length ≤ 64) (fun k => spec_BasinsOf.l0 k out (i : Int) c r l) (fun k => impl_BasinsOf.l0 k out (l.length : Int) (i : Int) c r l) := by
  have hs := f.small
  intro d
  induction d with
  | zero =>
    intro i out hd hi ho
    refine Both.succ ?_
    simp only [spec_BasinsOf.l0, impl_BasinsOf.l0]
    exact Both.negL (by omega) (Both.negR (by omega) (Both.some (by show out.length ≤ 64; omega)))
  | succ d ih =>
    intro i out hd hi ho
    refine Both.succ ?_
    simp only [spec_BasinsOf.l0, impl_BasinsOf.l0]
    refine Both.posL (by omega) (Both.posR (by omega) ?_)
    refine Both.bind (path f (i : Int) (by omega) (by omega)) (fun v hv => ?_)
    have w : wrap64 ((v.length : Int) - 1) = (v.length : Int) - 1 := wrap_id (by omega) (by omega)
    rw [w, wrap_succ (show i < l.length by omega) (by omega)]
    have h2 := hv.2.1
    refine Both.posL (by omega) (Both.posL (by omega) (Both.posL (by omega) ?_))
    refine Both.posR (by omega) (Both.posR (by omega) (Both.posR (by omega) ?_))
    exact ih (i + 1) _ (by omega) (by omega) (by simp [ho])

theorem basinsOf (c r : Int) (l : List Int) (h : l.length ≤ 1048576) : Both (fun v => v.1.length ≤ 64) (fun k => spec_BasinsOf.f k c r l) (fun k => impl_BasinsOf.f k c r l) := by
  unfold spec_BasinsOf.f impl_BasinsOf.f
  refine Both.bindCL rfl (Both.bindL (specGood c r l (by omega)) (Both.bindR (implGood c r l (by omega)) ?_))
  refine Both.ite Iff.rfl (fun hg => ?_) (fun _ => Both.some (by simp))
  exact basins (fit_of_good hg) _ 0 [] rfl (Nat.zero_le _) rfl

theorem own (l : List Int) (h : l.length ≤ 1048576) : spec_l1Own.f l = some l := by
  unfold spec_l1Own.f
  simp only [Option.bind_some]
  rw [if_pos (by simp; omega)]
  simp
theorem clone (l : List Int) (h : l.length ≤ 1048576) : slices_Clone_int_int.f l = some l := by
  unfold slices_Clone_int_int.f
  simp only [Option.bind_some]
  rw [if_pos (by simp; omega)]
  simp

theorem smooth {c r : Int} {l : List Int} (f : Fit c r l) : ∀ (d i : Nat) (out : List Int), l.length - i = d → i ≤ l.length → out.length = l.length →
    Both (fun v => v.2.2.1.length ≤ 1048576) (fun k => spec_SmoothSurface.l0 k (i : Int) c r l c r out) (fun k => impl_SmoothSurface.l0 k l (l.length : Int) (i : Int) c r l c r out) := by
  have hs := f.small
  intro d
  induction d with
  | zero =>
    intro i out hd hi ho
    refine Both.succ ?_
    simp only [spec_SmoothSurface.l0, impl_SmoothSurface.l0]
    exact Both.negL (by omega) (Both.negR (by omega) (Both.some (by show out.length ≤ 1048576; omega)))
  | succ d ih =>
    intro i out hd hi ho
    have hi' : i < l.length := by omega
    have hnb := nb_in f (p := (i : Int)) (by omega) (by omega)
    have h4 := nb_length c r (i : Int)
    refine Both.succ ?_
    simp only [spec_SmoothSurface.l0, impl_SmoothSurface.l0]
    refine Both.posL (by omega) (Both.posR (by omega) (Both.posR (by omega) (Both.posR (by omega) ?_)))
    refine Both.bindL (specNb f (by omega) (by omega)) (Both.bindR (implNb f (by omega) (by omega)) ?_)
    rw [wrap_succ hi' (by omega)]
    refine Both.ite Iff.rfl (fun _ => ih (i + 1) out (by omega) (by omega) ho) (fun hn => Both.posL (by omega) ?_)
    have hl : (nb c r (i : Int)).length = 4 := by omega
    have inner : ∀ (e j : Nat) (s : Int), 4 - j = e → j ≤ 4 →
        Both (fun v => v.2.2.1.length ≤ 1048576) (fun k => spec_SmoothSurface.l1 k (i : Int) (nb c r (i : Int)) s (j : Int) c r l c r out) (fun k => impl_SmoothSurface.l1 k (i : Int) s l (l.length : Int) (i : Int) (nb c r (i : Int)) ((nb c r (i : Int)).length : Int) (j : Int) c r l c r out) := by
      intro e
      induction e with
      | zero =>
        intro j s he hj
        refine Both.succ ?_
        simp only [spec_SmoothSurface.l1, impl_SmoothSurface.l1]
        refine Both.negL (by omega) (Both.negR (by omega) (Both.posL (by omega) (Both.posL (by omega) (Both.posR (by omega) (Both.posR (by omega) ?_)))))
        rw [wrap_succ hi' (by omega)]
        exact ih (i + 1) _ (by omega) (by omega) (by rw [List.length_set]; exact ho)
      | succ e ihe =>
        intro j s he hj
        have hj' : j < (nb c r (i : Int)).length := by omega
        have hq := at_mem hnb hj'
        refine Both.succ ?_
        simp only [spec_SmoothSurface.l1, impl_SmoothSurface.l1]
        refine Both.posL (by omega) (Both.posL (by omega) (Both.posL (by omega) (Both.posL hq.1 (Both.posL hq.2 ?_))))
        refine Both.posR (by omega) (Both.posR (by omega) (Both.posR (by omega) (Both.posR hq.1 (Both.posR hq.2 ?_))))
        rw [wrap_succ hj' (by omega)]
        exact ihe (j + 1) _ (by omega) (by omega)
    exact inner _ 0 _ rfl (by omega)

theorem smoothSurface (c r : Int) (l : List Int) (h : l.length ≤ 1048576) : Both (fun v => v.2.2.1.length ≤ 1048576) (fun k => spec_SmoothSurface.f k c r l) (fun k => impl_SmoothSurface.f k c r l) := by
  unfold spec_SmoothSurface.f impl_SmoothSurface.f
  refine Both.bindL (specGood c r l (by omega)) (Both.bindR (implGood c r l (by omega)) ?_)
  refine Both.ite Iff.rfl (fun hg => ?_) (fun _ => Both.some (by simp))
  refine Both.bindCL (own l h) (Both.bindCR (clone l h) ?_)
  exact smooth (fit_of_good hg) _ 0 l rfl (Nat.zero_le _) rfl

theorem heldSurface (c r : Int) (n : Nat) (h : n ≤ 1048576) : Ev (fun k => laws_heldSurface.f k c r (marks 1 n) 1) (1 + (n : Int)) := by
  unfold laws_heldSurface.f
  exact Ev.bind (heldIntS 1 n (by omega) (by omega) (by omega)) (Ev.neg (by omega) (Ev.now _))
end Go.Proofs.Ytgojidjfidldbaa.Pg
