/- The neighbors of a point, and what is read over them. -/
import Derived.Test.YtgojidjfidldbaaZFnExactBasinsOfPs
import Derived.Test.YtgojidjfidldbaaZFnExactBasinsOfB1
import Derived.Test.YtgojidjfidldbaaZFnExactBasinsOfB2
namespace Go.Proofs.Ytgojidjfidldbaa.Pn
open Go.RowKit Go.Proofs.Ytgojidjfidldbaa.Q Go.Proofs.YtgojidjfidldbaaW.PrintWords Go.Proofs.YtgojidjfidldbaaW.PrintMore Go.Proofs.Ytgojidjfidldbaa.Pl Go.Proofs.Ytgojidjfidldbaa.Pi Go.Proofs.Ytgojidjfidldbaa.Ps

def nb (c r p : Int) : List Int := (if p / c > 0 then [p - c] else []) ++ ((if p % c > 0 then [p - 1] else []) ++ ((if p % c + 1 < c then [p + 1] else []) ++ (if p / c + 1 < r then [p + c] else [])))

structure Fit (c r : Int) (l : List Int) : Prop where
  c1 : 2 ≤ c
  c2 : c ≤ 8
  r1 : 2 ≤ r
  r2 : r ≤ 8
  len : (l.length : Int) = c * r
  h : ∀ i (hi : i < l.length), 0 ≤ l[i] ∧ l[i] ≤ 10000

theorem fit_of_good {c r : Int} {l : List Int} (h : good c r l = true) : Fit c r l := by
  unfold good at h
  simp only [Bool.and_eq_true, decide_eq_true_eq] at h
  obtain ⟨⟨h1, h2⟩, ⟨h3, h4⟩, h5, h6⟩ := h
  have b1 : 0 ≤ c * r := Int.mul_nonneg (by omega) (by omega)
  have b2 : c * r ≤ 8 * 8 := Int.mul_le_mul h2 h4 (by omega) (by omega)
  refine ⟨h1, h2, h3, h4, by rw [h5, wrap_id (by omega) (by omega)], fun i hi => ?_⟩
  have := List.all_eq_true.1 h6 l[i] (List.getElem_mem hi)
  simpa [hOk] using this

theorem Fit.small {c r : Int} {l : List Int} (f : Fit c r l) : (l.length : Int) ≤ 64 := by
  rw [f.len]
  exact Int.mul_le_mul f.c2 f.r2 (by have := f.r1; omega) (by omega)

theorem nb_in {c r p : Int} {l : List Int} (f : Fit c r l) (h0 : 0 ≤ p) (h1 : p < l.length) : ∀ q ∈ nb c r p, 0 ≤ q ∧ q < l.length := by
  have hc := f.c1
  have e := Int.mul_ediv_add_emod p c
  have m0 := Int.emod_nonneg p (show c ≠ 0 by omega)
  have m1 := Int.emod_lt_of_pos p (show 0 < c by omega)
  have hl := f.len
  have d0 : 0 ≤ p / c := Int.ediv_nonneg h0 (by omega)
  have d1 : p / c + 1 ≤ r := by
    have : p / c < r := Int.ediv_lt_of_lt_mul (by omega) (by rw [Int.mul_comm]; omega)
    omega
  have k1 : c * (p / c + 1) ≤ c * r := Int.mul_le_mul_of_nonneg_left d1 (by omega)
  rw [Int.mul_add, Int.mul_one] at k1
  intro q hq
  unfold nb at hq
  simp only [List.mem_append] at hq
  rcases hq with hq | hq | hq | hq
  · split at hq
    · rename_i hd
      have k2 : c * 1 ≤ c * (p / c) := Int.mul_le_mul_of_nonneg_left (by omega) (by omega)
      simp at hq; omega
    · simp at hq
  · split at hq
    · have k2 : 0 ≤ c * (p / c) := Int.mul_nonneg (by omega) d0
      simp at hq; omega
    · simp at hq
  · split at hq
    · simp at hq; omega
    · simp at hq
  · split at hq
    · rename_i hd
      have k2 : c * (p / c + 2) ≤ c * r := Int.mul_le_mul_of_nonneg_left (by omega) (by omega)
      rw [Int.mul_add] at k2
      simp at hq; omega
    · simp at hq

theorem specNb {c r p : Int} {l : List Int} (f : Fit c r l) (h0 : 0 ≤ p) (h1 : p < l.length) : Ev (fun k => spec_l19Neighbors.f k c r l p) (nb c r p) := by
  have hc := f.c1; have hc2 := f.c2; have hr := f.r1; have hr2 := f.r2; have hs := f.small
  have m0 := Int.emod_nonneg p (show c ≠ 0 by omega)
  have m1 := Int.emod_lt_of_pos p (show 0 < c by omega)
  have d0 : 0 ≤ p / c := Int.ediv_nonneg h0 (by omega)
  have d1 : p / c ≤ p := Int.ediv_le_self c h0
  have et : Int.tdiv p c = p / c := Int.tdiv_eq_ediv_of_nonneg h0
  have em : Int.tmod p c = p % c := Int.tmod_eq_emod_of_nonneg h0
  have w1 : wrap64 (p / c) = p / c := wrap_id (by omega) (by omega)
  have w2 : wrap64 (p - c) = p - c := wrap_id (by omega) (by omega)
  have w3 : wrap64 (p - 1) = p - 1 := wrap_id (by omega) (by omega)
  have w4 : wrap64 (p + 1) = p + 1 := wrap_id (by omega) (by omega)
  have w5 : wrap64 (p + c) = p + c := wrap_id (by omega) (by omega)
  have w6 : wrap64 (p % c + 1) = p % c + 1 := wrap_id (by omega) (by omega)
  have w7 : wrap64 (p / c + 1) = p / c + 1 := wrap_id (by omega) (by omega)
  have j1 : ∀ x : List Int, x.length ≤ 2 → Ev (fun k => spec_l19Neighbors.j1 k p (p % c) (p / c) x c r l) (x ++ ((if p % c + 1 < c then [p + 1] else []) ++ (if p / c + 1 < r then [p + c] else []))) := by
    intro x hx
    refine Ev.succ ?_
    simp only [spec_l19Neighbors.j1, w4, w5, w6, w7]
    refine Ev.ite (fun ha => ?_) (fun ha => ?_)
    · refine Ev.pos (by omega) (Ev.bindC rfl ?_)
      refine Ev.ite (fun hb => Ev.pos (by simp; omega) ((Ev.now _).to (by simp [ha, hb]))) (fun hb => (Ev.now _).to (by simp [ha, hb]))
    · refine Ev.ite (fun hb => Ev.pos (by omega) ((Ev.now _).to (by simp [ha, hb]))) (fun hb => (Ev.now _).to (by simp [ha, hb]))
  have j0 : ∀ x : List Int, x.length ≤ 1 → Ev (fun k => spec_l19Neighbors.j0 k p (p % c) (p / c) x c r l) (x ++ ((if p % c > 0 then [p - 1] else []) ++ ((if p % c + 1 < c then [p + 1] else []) ++ (if p / c + 1 < r then [p + c] else [])))) := by
    intro x hx
    refine Ev.succ ?_
    simp only [spec_l19Neighbors.j0, w3]
    refine Ev.ite (fun ha => Ev.pos (by omega) ((j1 _ (by simp; omega)).to (by simp [ha]))) (fun ha => (j1 _ (by omega)).to (by simp [ha]))
  unfold spec_l19Neighbors.f
  simp only [et, em, w1, w2]
  refine Ev.neg (by omega) (Ev.bindC rfl (Ev.ite (fun ha => Ev.pos (by simp) ((j0 _ (by simp)).to (by unfold nb; simp [ha]))) (fun ha => (j0 _ (by simp)).to (by unfold nb; simp [ha]))))

theorem implNb {c r p : Int} {l : List Int} (f : Fit c r l) (h0 : 0 ≤ p) (h1 : p < l.length) : Ev (fun k => impl_Surface_neighbors.f k c r l p) (nb c r p) := by
  have hc := f.c1; have hc2 := f.c2; have hr := f.r1; have hr2 := f.r2; have hs := f.small
  have m0 := Int.emod_nonneg p (show c ≠ 0 by omega)
  have m1 := Int.emod_lt_of_pos p (show 0 < c by omega)
  have d0 : 0 ≤ p / c := Int.ediv_nonneg h0 (by omega)
  have d1 : p / c ≤ p := Int.ediv_le_self c h0
  have et : Int.tdiv p c = p / c := Int.tdiv_eq_ediv_of_nonneg h0
  have em : Int.tmod p c = p % c := Int.tmod_eq_emod_of_nonneg h0
  have w1 : wrap64 (p / c) = p / c := wrap_id (by omega) (by omega)
  have w2 : wrap64 (p - c) = p - c := wrap_id (by omega) (by omega)
  have w3 : wrap64 (p - 1) = p - 1 := wrap_id (by omega) (by omega)
  have w4 : wrap64 (p + 1) = p + 1 := wrap_id (by omega) (by omega)
  have w5 : wrap64 (p + c) = p + c := wrap_id (by omega) (by omega)
  have w6 : wrap64 (c - 1) = c - 1 := wrap_id (by omega) (by omega)
  have w7 : wrap64 (r - 1) = r - 1 := wrap_id (by omega) (by omega)
  have i1 : (p % c < c - 1) = (p % c + 1 < c) := by apply propext; omega
  have i2 : (p / c < r - 1) = (p / c + 1 < r) := by apply propext; omega
  have j1 : ∀ x : List Int, x.length ≤ 2 → Ev (fun k => impl_Surface_neighbors.j1 k p (p % c) (p / c) x c r l) (x ++ ((if p % c + 1 < c then [p + 1] else []) ++ (if p / c + 1 < r then [p + c] else []))) := by
    intro x hx
    refine Ev.succ ?_
    simp only [impl_Surface_neighbors.j1, w4, w5, w6, w7]
    refine Ev.ite (fun ha => ?_) (fun ha => ?_)
    · rw [i1] at ha
      refine Ev.pos (by omega) (Ev.bindC rfl ?_)
      refine Ev.ite (fun hb => Ev.pos (by simp; omega) ((Ev.now _).to (by rw [i2] at hb; simp [ha, hb]))) (fun hb => (Ev.now _).to (by rw [i2] at hb; simp [ha, hb]))
    · rw [i1] at ha
      refine Ev.ite (fun hb => Ev.pos (by omega) ((Ev.now _).to (by rw [i2] at hb; simp [ha, hb]))) (fun hb => (Ev.now _).to (by rw [i2] at hb; simp [ha, hb]))
  have j0 : ∀ x : List Int, x.length ≤ 1 → Ev (fun k => impl_Surface_neighbors.j0 k p (p % c) (p / c) x c r l) (x ++ ((if p % c > 0 then [p - 1] else []) ++ ((if p % c + 1 < c then [p + 1] else []) ++ (if p / c + 1 < r then [p + c] else [])))) := by
    intro x hx
    refine Ev.succ ?_
    simp only [impl_Surface_neighbors.j0, w3]
    refine Ev.ite (fun ha => Ev.pos (by omega) ((j1 _ (by simp; omega)).to (by simp [ha]))) (fun ha => (j1 _ (by omega)).to (by simp [ha]))
  unfold impl_Surface_neighbors.f
  simp only [et, em, w1, w2]
  refine Ev.neg (by omega) (Ev.bindC rfl (Ev.ite (fun ha => Ev.pos (by simp) ((j0 _ (by simp)).to (by unfold nb; simp [ha]))) (fun ha => (j0 _ (by simp)).to (by unfold nb; simp [ha]))))

theorem nb_length (c r p : Int) : (nb c r p).length ≤ 4 := by
  unfold nb
  simp only [List.length_append]
  repeat' split
  all_goals simp
theorem rd_nat {l : List Int} {q : Int} (h0 : 0 ≤ q) (h1 : q < l.length) : ∃ i : Nat, ∃ h : i < l.length, q = i ∧ rd l q = l[i] := by
  obtain ⟨n, rfl⟩ := Int.eq_ofNat_of_zero_le h0
  exact ⟨n, by omega, rfl, rd_at (by omega)⟩
theorem Fit.rd {c r : Int} {l : List Int} (f : Fit c r l) {q : Int} (h0 : 0 ≤ q) (h1 : q < l.length) : 0 ≤ rd l q ∧ rd l q ≤ 10000 := by
  obtain ⟨i, hi, _, e⟩ := rd_nat h0 h1
  rw [e]
  exact f.h i hi
end Go.Proofs.Ytgojidjfidldbaa.Pn
