-- Written by this session's texts and program for this claim. Lean checks it.
import Derived.Test.YtodombkmnnggeaaVFnCustody3
set_option autoImplicit true
set_option relaxedAutoImplicit true
set_option linter.unusedSimpArgs false
set_option linter.unusedVariables false
set_option maxHeartbeats 4000000
set_option maxRecDepth 100000
namespace Go.Proofs.Ytodombkmnnggeaa.EngS
open Go Go.Proofs Go.Eng Go.RowKit
attribute [local irreducible] Go.RowKit.wrap64
def parN (l : List Smp) (k : Nat) : Nat := min (l[k]?.getD default).par.toNat k
def ancN (l : List Smp) : Nat → List Int
  | 0 => []
  | k + 1 => ((k + 1 : Nat) : Int) :: ancN l (parN l k)
termination_by k => k
decreasing_by unfold parN; omega
theorem ancN_zero (l) : ancN l 0 = [] := by rw [ancN]
theorem ancN_succ (l k) : ancN l (k + 1) = ((k + 1 : Nat) : Int) :: ancN l (parN l k) := by rw [ancN]
theorem good_par {l : List Smp} (h : goodS l = true) {k : Nat} (hk : k < l.length) : l.length ≤ 16 ∧ l[k].id = ((k + 1 : Nat) : Int) ∧ parN l k ≤ k ∧ l[k].par = (parN l k : Int) := by
  obtain ⟨h1, h2⟩ := goodS_at h
  have h3 := h2 k hk
  simp only [smOK, smA, Bool.and_eq_true, decide_eq_true_eq, inR_iff] at h3
  obtain ⟨⟨⟨⟨⟨⟨⟨⟨⟨⟨h4, h5⟩, -⟩, -⟩, -⟩, -⟩, -⟩, -⟩, -⟩, -⟩, -⟩ := h3
  rw [w64 (by omega) (by omega)] at h4
  have h6 : parN l k = l[k].par.toNat := by unfold parN; rw [List.getElem?_eq_getElem hk, Option.getD_some]; omega
  exact ⟨h1, by omega, by omega, by omega⟩
theorem c_impl_ancestry (l : List Smp) (id : Nat) (hg : goodS l = true) (hid : id ≤ l.length) : ACall Try.prog 77 [.v (.sl true 8 (smps l)), int id] [.x, .x] [.v (.sl false 1 (ints (ancN l id)))] := by
  have hl16 := (goodS_at hg).1
  have hg' : Hd _ := hg
  clear hg
  refine ACall.of (N := 20) tok Try.func77 rfl rfl rfl (by simp) ?_
  repeat' (first | with_reducible refine OutOK.done ?_ | refine thenQ_n ?_ | refine thenQ_r ?_ | refine thenQ_e ?_ | refine AW.seq ?_ | refine AW.reg tok (by simp [*]; rfl) ?_ | refine AW.ifB (by simp [*]; rfl) ?_ | refine IfG.t ?_ | refine IfG.f ?_ | (refine IfG.p (fun hg => ?_) (fun hg => ?_) <;> (try (have hg' := hg; simp at hg'))) | (refine IfG.n (fun hg => ?_) (fun hg => ?_) <;> (try (have hg' := hg; simp at hg'))) | (refine OutOK.gateP (fun hg => ?_) (fun hg => ?_) <;> (try (have hg' := hg; simp at hg'))) | (refine OutOK.gateN (fun hg => ?_) (fun hg => ?_) <;> (try (have hg' := hg; simp at hg'))) | (refine IfG.g (fun hg => ?_) (fun hg => ?_) <;> (try (have hg' := hg; simp at hg'))) | (refine OutOK.gate (fun hg => ?_) (fun hg => ?_) <;> (try (have hg' := hg; simp at hg'))) | refine OutOK.run (by simp [*]; rfl) ?_ | refine AW.ret ?_ | refine AW.skip ?_ | refine AW.exit ?_ | refine fin_r ?_ | refine fin_n ?_ | refine AW.block ?_ | refine blockQ_n ?_ | refine blockQ_r ?_ | refine blockQ_e ?_ | refine blockQ_o rfl ?_)
  refine AW.loopS (α := Nat × List Int) (fun p => Hd (p.2 ++ ancN l p.1 = ancN l id) ∧ p.1 ≤ l.length ∧ p.2.length + p.1 ≤ 16) (fun p => [(0, .c (.sl true 8 (smps l))), (1, .c (.sc (.int .i64 (p.1 : Int)))), (5, .rf 18000 [])]) (fun p => [(18000, .sv (.sl false 1 (ints p.2)))]) (fun p => p.1) (id, []) ⟨by simp [Hd], hid, by simp; omega⟩ [(6000, 18000)] (by simp) ⟨by simp, by simp, by simp⟩ ?_
  rintro ⟨k, out⟩ ⟨h1, h2, h3⟩
  simp only at h1 h2 h3
  rcases k with _ | k
  · rw [ancN_zero, List.append_nil] at h1
    repeat' (first | with_reducible refine OutOK.done ?_ | refine thenQ_n ?_ | refine thenQ_r ?_ | refine thenQ_e ?_ | refine AW.seq ?_ | refine AW.reg tok (by simp [*]; rfl) ?_ | refine AW.ifB (by simp [*]; rfl) ?_ | refine IfG.t ?_ | refine IfG.f ?_ | (refine IfG.p (fun hg => ?_) (fun hg => ?_) <;> (try (have hg' := hg; simp at hg'))) | (refine IfG.n (fun hg => ?_) (fun hg => ?_) <;> (try (have hg' := hg; simp at hg'))) | (refine OutOK.gateP (fun hg => ?_) (fun hg => ?_) <;> (try (have hg' := hg; simp at hg'))) | (refine OutOK.gateN (fun hg => ?_) (fun hg => ?_) <;> (try (have hg' := hg; simp at hg'))) | (refine IfG.g (fun hg => ?_) (fun hg => ?_) <;> (try (have hg' := hg; simp at hg'))) | (refine OutOK.gate (fun hg => ?_) (fun hg => ?_) <;> (try (have hg' := hg; simp at hg'))) | refine OutOK.run (by simp [*]; rfl) ?_ | refine AW.ret ?_ | refine AW.skip ?_ | refine AW.exit ?_ | refine fin_r ?_ | refine fin_n ?_ | refine AW.block ?_ | refine blockQ_n ?_ | refine blockQ_r ?_ | refine blockQ_e ?_ | refine blockQ_o rfl ?_)
    simp [Try.f77, h1.out]
  · rw [ancN_succ] at h1
    obtain ⟨-, g2, g3, g4⟩ := good_par hg'.out h2
    generalize parN l k = m at *
    have e1 : wrap64 (((k + 1 : Nat) : Int) - 1) = (k : Int) := by rw [w64 (by omega) (by omega)]; omega
    have e2 : wrap64 ((k : Int) + 1 - 1) = (k : Int) := by rw [w64 (by omega) (by omega)]; omega
    have b1 : (out.length + 1) * 8 ≤ 140737488355328 := by ((try (clear e0)); (try (clear e1)); (try (clear e2)); (try (clear e3)); (try (clear e4)); (try (clear e5)); (try (clear e6)); (try (clear e7)); (try (clear e8)); (try (clear e9)); (try (clear e10)); (try (clear e11)); omega)
    have b2 : out.length + 1 ≤ 4611686018427387904 := by ((try (clear e0)); (try (clear e1)); (try (clear e2)); (try (clear e3)); (try (clear e4)); (try (clear e5)); (try (clear e6)); (try (clear e7)); (try (clear e8)); (try (clear e9)); (try (clear e10)); (try (clear e11)); omega)
    have hk0 : (0 : Int) < (k : Int) + 1 := by ((try (clear e0)); (try (clear e1)); (try (clear e2)); (try (clear e3)); (try (clear e4)); (try (clear e5)); (try (clear e6)); (try (clear e7)); (try (clear e8)); (try (clear e9)); (try (clear e10)); (try (clear e11)); omega)
    have hkl : k < l.length := by ((try (clear e0)); (try (clear e1)); (try (clear e2)); (try (clear e3)); (try (clear e4)); (try (clear e5)); (try (clear e6)); (try (clear e7)); (try (clear e8)); (try (clear e9)); (try (clear e10)); (try (clear e11)); omega)
    have e3 : wrap64 (k : Int) = (k : Int) := w64 (by ((try (clear e0)); (try (clear e1)); (try (clear e2)); (try (clear e3)); (try (clear e4)); (try (clear e5)); (try (clear e6)); (try (clear e7)); (try (clear e8)); (try (clear e9)); (try (clear e10)); (try (clear e11)); omega)) (by ((try (clear e0)); (try (clear e1)); (try (clear e2)); (try (clear e3)); (try (clear e4)); (try (clear e5)); (try (clear e6)); (try (clear e7)); (try (clear e8)); (try (clear e9)); (try (clear e10)); (try (clear e11)); omega))
    clear g2
    repeat' (first | with_reducible refine OutOK.done ?_ | refine thenQ_n ?_ | refine thenQ_r ?_ | refine thenQ_e ?_ | refine AW.seq ?_ | refine AW.reg tok (by simp [*]; rfl) ?_ | refine AW.ifB (by simp [*]; rfl) ?_ | refine IfG.t ?_ | refine IfG.f ?_ | (refine IfG.p (fun hg => ?_) (fun hg => ?_) <;> (try (have hg' := hg; simp at hg'))) | (refine IfG.n (fun hg => ?_) (fun hg => ?_) <;> (try (have hg' := hg; simp at hg'))) | (refine OutOK.gateP (fun hg => ?_) (fun hg => ?_) <;> (try (have hg' := hg; simp at hg'))) | (refine OutOK.gateN (fun hg => ?_) (fun hg => ?_) <;> (try (have hg' := hg; simp at hg'))) | (refine IfG.g (fun hg => ?_) (fun hg => ?_) <;> (try (have hg' := hg; simp at hg'))) | (refine OutOK.gate (fun hg => ?_) (fun hg => ?_) <;> (try (have hg' := hg; simp at hg'))) | refine OutOK.run (by simp [*]; rfl) ?_ | refine AW.ret ?_ | refine AW.skip ?_ | refine AW.exit ?_ | refine fin_r ?_ | refine fin_n ?_ | refine AW.block ?_ | refine blockQ_n ?_ | refine blockQ_r ?_ | refine blockQ_e ?_ | refine blockQ_o rfl ?_)
    exact ⟨(m, out ++ [((k + 1 : Nat) : Int)]), ⟨by rw [Hd, List.append_assoc]; exact h1.out, by simp only; ((try (clear e0)); (try (clear e1)); (try (clear e2)); (try (clear e3)); (try (clear e4)); (try (clear e5)); (try (clear e6)); (try (clear e7)); (try (clear e8)); (try (clear e9)); (try (clear e10)); (try (clear e11)); omega), by simp only [List.length_append, List.length_cons, List.length_nil]; ((try (clear e0)); (try (clear e1)); (try (clear e2)); (try (clear e3)); (try (clear e4)); (try (clear e5)); (try (clear e6)); (try (clear e7)); (try (clear e8)); (try (clear e9)); (try (clear e10)); (try (clear e11)); omega)⟩, ⟨[], by simp, by simp [*], by simp, by simp⟩, by simp only; ((try (clear e0)); (try (clear e1)); (try (clear e2)); (try (clear e3)); (try (clear e4)); (try (clear e5)); (try (clear e6)); (try (clear e7)); (try (clear e8)); (try (clear e9)); (try (clear e10)); (try (clear e11)); omega)⟩
def selI (p : Smp → Bool) (l : List Smp) : List Int := (l.filter p).map (·.id)
theorem selI_yes {p : Smp → Bool} {l : List Smp} {i : Nat} (h : i < l.length) (hp : p l[i] = true) : selI p (l.take (i + 1)) = selI p (l.take i) ++ [l[i].id] := by
  rw [List.take_succ_eq_append_getElem h]; simp only [selI, List.filter_append, List.filter_cons, hp, List.filter_nil, List.map_append, if_true, List.map_cons, List.map_nil]
theorem selI_no {p : Smp → Bool} {l : List Smp} {i : Nat} (h : i < l.length) (hp : p l[i] = false) : selI p (l.take (i + 1)) = selI p (l.take i) := by
  rw [List.take_succ_eq_append_getElem h]; simp only [selI, List.filter_append, List.filter_cons, hp, List.filter_nil, List.map_append, Bool.false_eq_true, if_false, List.map_nil, List.append_nil]
theorem selI_len (p : Smp → Bool) (l : List Smp) : (selI p l).length ≤ l.length := by simp only [selI, List.length_map]; exact List.length_filter_le _ _
theorem c_slices_Index_int_int (xs : List Int) (n : Int) (h : xs.length < 9223372036854775807) : ACall Try.prog 112 [.v (.sl true 1 (ints xs)), int n] [.x, .x] [int (idx (fun x => decide (x = n)) xs)] := by
  refine ACall.of (N := 19) tok Try.func112 rfl rfl rfl (by simp) ?_
  repeat' (first | with_reducible refine OutOK.done ?_ | refine thenQ_n ?_ | refine thenQ_r ?_ | refine thenQ_e ?_ | refine AW.seq ?_ | refine AW.reg tok (by simp [*]; rfl) ?_ | refine AW.ifB (by simp [*]; rfl) ?_ | refine IfG.t ?_ | refine IfG.f ?_ | (refine IfG.p (fun hg => ?_) (fun hg => ?_) <;> (try (have hg' := hg; simp at hg'))) | (refine IfG.n (fun hg => ?_) (fun hg => ?_) <;> (try (have hg' := hg; simp at hg'))) | (refine OutOK.gateP (fun hg => ?_) (fun hg => ?_) <;> (try (have hg' := hg; simp at hg'))) | (refine OutOK.gateN (fun hg => ?_) (fun hg => ?_) <;> (try (have hg' := hg; simp at hg'))) | (refine IfG.g (fun hg => ?_) (fun hg => ?_) <;> (try (have hg' := hg; simp at hg'))) | (refine OutOK.gate (fun hg => ?_) (fun hg => ?_) <;> (try (have hg' := hg; simp at hg'))) | refine OutOK.run (by simp [*]; rfl) ?_ | refine AW.ret ?_ | refine AW.skip ?_ | refine AW.exit ?_ | refine fin_r ?_ | refine fin_n ?_ | refine AW.block ?_ | refine blockQ_n ?_ | refine blockQ_r ?_ | refine blockQ_e ?_ | refine blockQ_o rfl ?_)
  refine AW.loopL (fun i => i ≤ xs.length ∧ Hd ((xs.take i).any (fun x => decide (x = n)) = false)) (fun i => [(0, .c (.sl true 1 (ints xs))), (1, .c (.sc (.int .i64 n))), (7, .c (.sc (.int .i64 (xs.length : Int)))), (8, .c (.sc (.int .i64 (i : Int))))]) (fun _ => []) (fun i => xs.length - i) 0 ⟨Nat.zero_le _, by simp [Hd]⟩ ⟨by simp, by simp, by simp⟩ ?_
  rintro i ⟨hi, hs⟩
  rcases Nat.lt_or_ge i xs.length with hl | hl
  · have e1 : wrap64 ((i : Int) + 1) = ((i + 1 : Nat) : Int) := by rw [w64 (by omega) (by omega)]; omega
    by_cases hx : n = xs[i]
    · have ha := idx_at (p := fun x => decide (x = n)) hl hs.out (by simp [hx])
      have ha' : Hd _ := ha
      clear ha
      repeat' (first | with_reducible refine OutOK.done ?_ | refine thenQ_n ?_ | refine thenQ_r ?_ | refine thenQ_e ?_ | refine AW.seq ?_ | refine AW.reg tok (by simp [*]; rfl) ?_ | refine AW.ifB (by simp [*]; rfl) ?_ | refine IfG.t ?_ | refine IfG.f ?_ | (refine IfG.p (fun hg => ?_) (fun hg => ?_) <;> (try (have hg' := hg; simp at hg'))) | (refine IfG.n (fun hg => ?_) (fun hg => ?_) <;> (try (have hg' := hg; simp at hg'))) | (refine OutOK.gateP (fun hg => ?_) (fun hg => ?_) <;> (try (have hg' := hg; simp at hg'))) | (refine OutOK.gateN (fun hg => ?_) (fun hg => ?_) <;> (try (have hg' := hg; simp at hg'))) | (refine IfG.g (fun hg => ?_) (fun hg => ?_) <;> (try (have hg' := hg; simp at hg'))) | (refine OutOK.gate (fun hg => ?_) (fun hg => ?_) <;> (try (have hg' := hg; simp at hg'))) | refine OutOK.run (by simp [*]; rfl) ?_ | refine AW.ret ?_ | refine AW.skip ?_ | refine AW.exit ?_ | refine fin_r ?_ | refine fin_n ?_ | refine AW.block ?_ | refine blockQ_n ?_ | refine blockQ_r ?_ | refine blockQ_e ?_ | refine blockQ_o rfl ?_)
      simp [Try.f112, ha'.out]
    · have hx' : ¬ xs[i] = n := fun e => hx e.symm
      repeat' (first | with_reducible refine OutOK.done ?_ | refine thenQ_n ?_ | refine thenQ_r ?_ | refine thenQ_e ?_ | refine AW.seq ?_ | refine AW.reg tok (by simp [*]; rfl) ?_ | refine AW.ifB (by simp [*]; rfl) ?_ | refine IfG.t ?_ | refine IfG.f ?_ | (refine IfG.p (fun hg => ?_) (fun hg => ?_) <;> (try (have hg' := hg; simp at hg'))) | (refine IfG.n (fun hg => ?_) (fun hg => ?_) <;> (try (have hg' := hg; simp at hg'))) | (refine OutOK.gateP (fun hg => ?_) (fun hg => ?_) <;> (try (have hg' := hg; simp at hg'))) | (refine OutOK.gateN (fun hg => ?_) (fun hg => ?_) <;> (try (have hg' := hg; simp at hg'))) | (refine IfG.g (fun hg => ?_) (fun hg => ?_) <;> (try (have hg' := hg; simp at hg'))) | (refine OutOK.gate (fun hg => ?_) (fun hg => ?_) <;> (try (have hg' := hg; simp at hg'))) | refine OutOK.run (by simp [*]; rfl) ?_ | refine AW.ret ?_ | refine AW.skip ?_ | refine AW.exit ?_ | refine fin_r ?_ | refine fin_n ?_ | refine AW.block ?_ | refine blockQ_n ?_ | refine blockQ_r ?_ | refine blockQ_e ?_ | refine blockQ_o rfl ?_)
      exact ⟨i + 1, ⟨hl, any_more hl hs.out (by simp [hx'])⟩, ⟨by simp, by simp, by simp⟩, by ((try (clear e0)); (try (clear e1)); (try (clear e2)); (try (clear e3)); (try (clear e4)); (try (clear e5)); (try (clear e6)); (try (clear e7)); (try (clear e8)); (try (clear e9)); (try (clear e10)); (try (clear e11)); omega)⟩
  · have ha := idx_none (any_end (p := fun x => decide (x = n)) hl hs.out)
    have hii : i = xs.length := by omega
    have ha' : Hd _ := ha
    subst hii
    clear ha
    repeat' (first | with_reducible refine OutOK.done ?_ | refine thenQ_n ?_ | refine thenQ_r ?_ | refine thenQ_e ?_ | refine AW.seq ?_ | refine AW.reg tok (by simp [*]; rfl) ?_ | refine AW.ifB (by simp [*]; rfl) ?_ | refine IfG.t ?_ | refine IfG.f ?_ | (refine IfG.p (fun hg => ?_) (fun hg => ?_) <;> (try (have hg' := hg; simp at hg'))) | (refine IfG.n (fun hg => ?_) (fun hg => ?_) <;> (try (have hg' := hg; simp at hg'))) | (refine OutOK.gateP (fun hg => ?_) (fun hg => ?_) <;> (try (have hg' := hg; simp at hg'))) | (refine OutOK.gateN (fun hg => ?_) (fun hg => ?_) <;> (try (have hg' := hg; simp at hg'))) | (refine IfG.g (fun hg => ?_) (fun hg => ?_) <;> (try (have hg' := hg; simp at hg'))) | (refine OutOK.gate (fun hg => ?_) (fun hg => ?_) <;> (try (have hg' := hg; simp at hg'))) | refine OutOK.run (by simp [*]; rfl) ?_ | refine AW.ret ?_ | refine AW.skip ?_ | refine AW.exit ?_ | refine fin_r ?_ | refine fin_n ?_ | refine AW.block ?_ | refine blockQ_n ?_ | refine blockQ_r ?_ | refine blockQ_e ?_ | refine blockQ_o rfl ?_)
    simp [Try.f112, ha'.out]
theorem c_slices_Contains_int_int (xs : List Int) (n : Int) (h : xs.length < 9223372036854775807) : ACall Try.prog 80 [.v (.sl true 1 (ints xs)), int n] [.x, .x] [boo (xs.any fun x => decide (x = n))] := by
  have cix := c_slices_Index_int_int xs n h
  have hidx := idx_any (p := fun x => decide (x = n)) (xs := xs)
  generalize idx (fun x => decide (x = n)) xs = v at *
  generalize xs.any (fun x => decide (x = n)) = b at *
  refine ACall.of (N := 9) tok Try.func80 rfl rfl rfl (by simp) ?_
  repeat' (first | with_reducible refine OutOK.done ?_ | refine thenQ_n ?_ | refine thenQ_r ?_ | refine thenQ_e ?_ | refine AW.seq ?_ | refine AW.reg tok (by simp [*]; rfl) ?_ | refine AW.ifB (by simp [*]; rfl) ?_ | refine IfG.t ?_ | refine IfG.f ?_ | (refine IfG.p (fun hg => ?_) (fun hg => ?_) <;> (try (have hg' := hg; simp at hg'))) | (refine IfG.n (fun hg => ?_) (fun hg => ?_) <;> (try (have hg' := hg; simp at hg'))) | (refine OutOK.gateP (fun hg => ?_) (fun hg => ?_) <;> (try (have hg' := hg; simp at hg'))) | (refine OutOK.gateN (fun hg => ?_) (fun hg => ?_) <;> (try (have hg' := hg; simp at hg'))) | (refine IfG.g (fun hg => ?_) (fun hg => ?_) <;> (try (have hg' := hg; simp at hg'))) | (refine OutOK.gate (fun hg => ?_) (fun hg => ?_) <;> (try (have hg' := hg; simp at hg'))) | (refine OutOK.callF [] (by simp [*]; rfl) (by simp [*]; rfl) (by simp [*]; rfl) hb112 (by apply cix <;> first | assumption | exact Hd.out (by assumption) | ((try (clear e0)); (try (clear e1)); (try (clear e2)); (try (clear e3)); (try (clear e4)); (try (clear e5)); (try (clear e6)); (try (clear e7)); (try (clear e8)); (try (clear e9)); (try (clear e10)); (try (clear e11)); omega)) ⟨by simp [*], by simp [*], by simp [*], by simp [*], by simp [*]⟩ (by simp [*]) (by simp [*]; rfl) ?_) | refine OutOK.run (by simp [*]; rfl) ?_ | refine AW.ret ?_ | refine AW.skip ?_ | refine AW.exit ?_ | refine fin_r ?_ | refine fin_n ?_ | refine AW.block ?_ | refine blockQ_n ?_ | refine blockQ_r ?_ | refine blockQ_e ?_ | refine blockQ_o rfl ?_)
  simp [Try.f80, hidx]
theorem c_impl_idsOf2 (l : List Smp) (f : Nat) (C1 C2 : List PV) (p : Smp → Bool) (h : l.length ≤ 16) (hbf : HasBody Try.prog f) (cf : ∀ s ∈ l, ACall Try.prog f [smpD s, .p C1, .p C2] [.x, .p C1, .p C2] [boo (p s)]) :
    ACall Try.prog 78 [.v (.sl true 8 (smps l)), .f f [C1, C2]] [.x, .f f [C1, C2]] [.v (.sl false 1 (ints (selI p l)))] := by
  replace cf : Hd _ := cf
  refine ACall.of (N := 25) tok Try.func78 rfl rfl rfl (by simp) ?_
  repeat' (first | with_reducible refine OutOK.done ?_ | refine thenQ_n ?_ | refine thenQ_r ?_ | refine thenQ_e ?_ | refine AW.seq ?_ | refine AW.reg tok (by simp [*]; rfl) ?_ | refine AW.ifB (by simp [*]; rfl) ?_ | refine IfG.t ?_ | refine IfG.f ?_ | (refine IfG.p (fun hg => ?_) (fun hg => ?_) <;> (try (have hg' := hg; simp at hg'))) | (refine IfG.n (fun hg => ?_) (fun hg => ?_) <;> (try (have hg' := hg; simp at hg'))) | (refine OutOK.gateP (fun hg => ?_) (fun hg => ?_) <;> (try (have hg' := hg; simp at hg'))) | (refine OutOK.gateN (fun hg => ?_) (fun hg => ?_) <;> (try (have hg' := hg; simp at hg'))) | (refine IfG.g (fun hg => ?_) (fun hg => ?_) <;> (try (have hg' := hg; simp at hg'))) | (refine OutOK.gate (fun hg => ?_) (fun hg => ?_) <;> (try (have hg' := hg; simp at hg'))) | refine OutOK.run (by simp [*]; rfl) ?_ | refine AW.ret ?_ | refine AW.skip ?_ | refine AW.exit ?_ | refine fin_r ?_ | refine fin_n ?_ | refine AW.block ?_ | refine blockQ_n ?_ | refine blockQ_r ?_ | refine blockQ_e ?_ | refine blockQ_o rfl ?_)
  refine AW.loopS (fun i => i ≤ l.length) (fun i => [(0, .c (.sl true 8 (smps l))), (1, .fn f [.pt 100000051 [] 0, .pt 100000052 [] 0]), (5, .rf 22000 []), (9, .c (.sl true 8 (smps l))), (10, .c (.sc (.int .i64 (l.length : Int)))), (11, .c (.sc (.int .i64 (i : Int))))])
    (fun i => [(22000, .sv (.sl false 1 (ints (selI p (l.take i))))), (100000051, .bx C1), (100000052, .bx C2)]) (fun i => l.length - i) 0 (Nat.zero_le _) [(8000, 22000)] (by simp) ⟨by simp, by simp [selI], by simp⟩ ?_
  intro i hi
  rcases Nat.lt_or_ge i l.length with hl | hl
  · have e1 : wrap64 ((i : Int) + 1) = ((i + 1 : Nat) : Int) := by rw [w64 (by omega) (by omega)]; omega
    have cs := cf.out l[i] (List.getElem_mem hl)
    have hln := selI_len p (l.take i)
    have hln2 : (selI p (l.take i)).length ≤ 16 := by rw [List.length_take] at hln; ((try (clear e0)); (try (clear e1)); (try (clear e2)); (try (clear e3)); (try (clear e4)); (try (clear e5)); (try (clear e6)); (try (clear e7)); (try (clear e8)); (try (clear e9)); (try (clear e10)); (try (clear e11)); omega)
    have b1 : ((selI p (l.take i)).length + 1) * 8 ≤ 140737488355328 := by ((try (clear e0)); (try (clear e1)); (try (clear e2)); (try (clear e3)); (try (clear e4)); (try (clear e5)); (try (clear e6)); (try (clear e7)); (try (clear e8)); (try (clear e9)); (try (clear e10)); (try (clear e11)); omega)
    have b2 : (selI p (l.take i)).length + 1 ≤ 4611686018427387904 := by ((try (clear e0)); (try (clear e1)); (try (clear e2)); (try (clear e3)); (try (clear e4)); (try (clear e5)); (try (clear e6)); (try (clear e7)); (try (clear e8)); (try (clear e9)); (try (clear e10)); (try (clear e11)); omega)
    have hy : Hd (p l[i] = true → selI p (l.take (i + 1)) = selI p (l.take i) ++ [l[i].id]) := selI_yes hl
    have hno : Hd (p l[i] = false → selI p (l.take (i + 1)) = selI p (l.take i)) := selI_no hl
    generalize hsn : selI p (l.take (i + 1)) = sn at *
    have hsn' : Hd _ := hsn
    clear hsn
    generalize hso : selI p (l.take i) = so at *
    have hso' : Hd _ := hso
    clear hso hln
    repeat' (first | with_reducible refine OutOK.done ?_ | refine thenQ_n ?_ | refine thenQ_r ?_ | refine thenQ_e ?_ | refine AW.seq ?_ | refine AW.reg tok (by simp [*]; rfl) ?_ | refine AW.ifB (by simp [*]; rfl) ?_ | refine IfG.t ?_ | refine IfG.f ?_ | (refine IfG.p (fun hg => ?_) (fun hg => ?_) <;> (try (have hg' := hg; simp at hg'))) | (refine IfG.n (fun hg => ?_) (fun hg => ?_) <;> (try (have hg' := hg; simp at hg'))) | (refine OutOK.gateP (fun hg => ?_) (fun hg => ?_) <;> (try (have hg' := hg; simp at hg'))) | (refine OutOK.gateN (fun hg => ?_) (fun hg => ?_) <;> (try (have hg' := hg; simp at hg'))) | (refine IfG.g (fun hg => ?_) (fun hg => ?_) <;> (try (have hg' := hg; simp at hg'))) | (refine OutOK.gate (fun hg => ?_) (fun hg => ?_) <;> (try (have hg' := hg; simp at hg'))) | (refine OutOK.callF [] (by simp [*]; rfl) (by simp [*]; rfl) (by simp [*]; rfl) hbf (by apply cs <;> first | assumption | exact Hd.out (by assumption) | ((try (clear e0)); (try (clear e1)); (try (clear e2)); (try (clear e3)); (try (clear e4)); (try (clear e5)); (try (clear e6)); (try (clear e7)); (try (clear e8)); (try (clear e9)); (try (clear e10)); (try (clear e11)); omega)) ⟨by simp [*], by simp [*], by simp [*], by simp [*], by simp [*]⟩ (by simp [*]) (by simp [*]; rfl) ?_) | refine OutOK.run (by simp [*]; rfl) ?_ | refine AW.ret ?_ | refine AW.skip ?_ | refine AW.exit ?_ | refine fin_r ?_ | refine fin_n ?_ | refine AW.block ?_ | refine blockQ_n ?_ | refine blockQ_r ?_ | refine blockQ_e ?_ | refine blockQ_o rfl ?_)
    · exact ⟨i + 1, hl, ⟨[], by simp, by simp, by simp [hsn'.out, hy.out (by assumption), hso'.out], by simp⟩, by ((try (clear e0)); (try (clear e1)); (try (clear e2)); (try (clear e3)); (try (clear e4)); (try (clear e5)); (try (clear e6)); (try (clear e7)); (try (clear e8)); (try (clear e9)); (try (clear e10)); (try (clear e11)); omega)⟩
    · exact ⟨i + 1, hl, ⟨[], by simp, by simp, by simp [hsn'.out, hno.out (by assumption), hso'.out], by simp⟩, by ((try (clear e0)); (try (clear e1)); (try (clear e2)); (try (clear e3)); (try (clear e4)); (try (clear e5)); (try (clear e6)); (try (clear e7)); (try (clear e8)); (try (clear e9)); (try (clear e10)); (try (clear e11)); omega)⟩
  · have hii : i = l.length := by omega
    subst hii
    repeat' (first | with_reducible refine OutOK.done ?_ | refine thenQ_n ?_ | refine thenQ_r ?_ | refine thenQ_e ?_ | refine AW.seq ?_ | refine AW.reg tok (by simp [*]; rfl) ?_ | refine AW.ifB (by simp [*]; rfl) ?_ | refine IfG.t ?_ | refine IfG.f ?_ | (refine IfG.p (fun hg => ?_) (fun hg => ?_) <;> (try (have hg' := hg; simp at hg'))) | (refine IfG.n (fun hg => ?_) (fun hg => ?_) <;> (try (have hg' := hg; simp at hg'))) | (refine OutOK.gateP (fun hg => ?_) (fun hg => ?_) <;> (try (have hg' := hg; simp at hg'))) | (refine OutOK.gateN (fun hg => ?_) (fun hg => ?_) <;> (try (have hg' := hg; simp at hg'))) | (refine IfG.g (fun hg => ?_) (fun hg => ?_) <;> (try (have hg' := hg; simp at hg'))) | (refine OutOK.gate (fun hg => ?_) (fun hg => ?_) <;> (try (have hg' := hg; simp at hg'))) | refine OutOK.run (by simp [*]; rfl) ?_ | refine AW.ret ?_ | refine AW.skip ?_ | refine AW.exit ?_ | refine fin_r ?_ | refine fin_n ?_ | refine AW.block ?_ | refine blockQ_n ?_ | refine blockQ_r ?_ | refine blockQ_e ?_ | refine blockQ_o rfl ?_)
    simp [Try.f78]
end Go.Proofs.Ytodombkmnnggeaa.EngS


set_option linter.unusedSimpArgs false
set_option linter.unusedVariables false
set_option maxHeartbeats 4000000
set_option maxRecDepth 100000
namespace Go.Proofs.Ytodombkmnnggeaa.EngS
open Go Go.Proofs Go.Eng Go.RowKit
attribute [local irreducible] Go.RowKit.wrap64
theorem ancN_len (l : List Smp) : ∀ (k m : Nat), m ≤ k → (ancN l m).length ≤ m
  | 0, m, h => by have : m = 0 := by omega
                  subst this; simp [ancN_zero]
  | k + 1, 0, h => by simp [ancN_zero]
  | k + 1, m + 1, h => by
      have h1 : parN l m ≤ m := by unfold parN; omega
      have h2 := ancN_len l k (parN l m) (by omega)
      rw [ancN_succ, List.length_cons]; omega
def derP (l : List Smp) (n : Int) (s : Smp) : Bool := !decide (s.id = n) && (ancN l s.id.toNat).any (fun x => decide (x = n))
theorem c_impl_DerivedFrom_1 (l : List Smp) (n : Int) (s : Smp) (hg : goodS l = true) (hs : s ∈ l) : ACall Try.prog 79 [smpD s, .p [.sc (.int .i64 n)], .p [.sl true 8 (smps l)]] [.x, .p [.sc (.int .i64 n)], .p [.sl true 8 (smps l)]] [boo (derP l n s)] := by
  obtain ⟨k, hk, e⟩ := List.getElem_of_mem hs
  obtain ⟨g1, g2, -, -⟩ := good_par hg hk
  rw [e] at g2
  have hd : derP l n s = (!decide (((k + 1 : Nat) : Int) = n) && (ancN l (k + 1)).any (fun x => decide (x = n))) := by unfold derP; rw [g2]; rfl
  have ca := c_impl_ancestry l (k + 1) hg hk
  have hal := ancN_len l (k + 1) (k + 1) (Nat.le_refl _)
  rw [hd]
  generalize ancN l (k + 1) = al at *
  have cc := c_slices_Contains_int_int al n (by omega)
  generalize al.any (fun x => decide (x = n)) = b at *
  generalize hkk : k + 1 = kk at *
  obtain ⟨id, hol, lef, tak, usd, giv, par, x⟩ := s
  simp only at g2
  subst g2
  replace hg : Hd _ := hg
  clear hd hs e
  by_cases hn : (kk : Int) = n
  · refine ACall.of (N := 17) tok Try.func79 rfl rfl rfl (by simp) ?_
    repeat' (first | with_reducible refine OutOK.done ?_ | refine thenQ_n ?_ | refine thenQ_r ?_ | refine thenQ_e ?_ | refine AW.seq ?_ | refine AW.dreg tok mixed [2, 7, 8, 9]  [(0, false), (1, false), (2, true), (3, false), (4, false), (6, false), (5, false), (7, true), (9, true), (8, true), (10, false), (11, false), (12, false)] (by decide +kernel) rfl (by simp [*]; rfl) ?_ | refine AW.reg tok (by simp [*]; rfl) ?_ | refine AW.ifB (by simp [*]; rfl) ?_ | refine IfG.t ?_ | refine IfG.f ?_ | (refine IfG.p (fun hg => ?_) (fun hg => ?_) <;> (try (have hg' := hg; simp at hg'))) | (refine IfG.n (fun hg => ?_) (fun hg => ?_) <;> (try (have hg' := hg; simp at hg'))) | (refine OutOK.gateP (fun hg => ?_) (fun hg => ?_) <;> (try (have hg' := hg; simp at hg'))) | (refine OutOK.gateN (fun hg => ?_) (fun hg => ?_) <;> (try (have hg' := hg; simp at hg'))) | (refine IfG.g (fun hg => ?_) (fun hg => ?_) <;> (try (have hg' := hg; simp at hg'))) | (refine OutOK.gate (fun hg => ?_) (fun hg => ?_) <;> (try (have hg' := hg; simp at hg'))) | (refine OutOK.callF [] (by simp [*]; rfl) (by simp [*]; rfl) (by simp [*]; rfl) hb77 (by apply ca <;> first | assumption | exact Hd.out (by assumption) | ((try (clear e0)); (try (clear e1)); (try (clear e2)); (try (clear e3)); (try (clear e4)); (try (clear e5)); (try (clear e6)); (try (clear e7)); (try (clear e8)); (try (clear e9)); (try (clear e10)); (try (clear e11)); omega)) ⟨by simp [*], by simp [*], by simp [*], by simp [*], by simp [*]⟩ (by simp [*]) (by simp [*]; rfl) ?_) | (refine OutOK.callF [] (by simp [*]; rfl) (by simp [*]; rfl) (by simp [*]; rfl) hb80 (by apply cc <;> first | assumption | exact Hd.out (by assumption) | ((try (clear e0)); (try (clear e1)); (try (clear e2)); (try (clear e3)); (try (clear e4)); (try (clear e5)); (try (clear e6)); (try (clear e7)); (try (clear e8)); (try (clear e9)); (try (clear e10)); (try (clear e11)); omega)) ⟨by simp [*], by simp [*], by simp [*], by simp [*], by simp [*]⟩ (by simp [*]) (by simp [*]; rfl) ?_) | refine OutOK.run (by simp [*]; rfl) ?_ | refine AW.ret ?_ | refine AW.skip ?_ | refine AW.exit ?_ | refine fin_r ?_ | refine fin_n ?_ | refine AW.block ?_ | refine blockQ_n ?_ | refine blockQ_r ?_ | refine blockQ_e ?_ | refine blockQ_o rfl ?_)
    simp [Try.f79, hn]
  · refine ACall.of (N := 17) tok Try.func79 rfl rfl rfl (by simp) ?_
    repeat' (first | with_reducible refine OutOK.done ?_ | refine thenQ_n ?_ | refine thenQ_r ?_ | refine thenQ_e ?_ | refine AW.seq ?_ | refine AW.dreg tok mixed [2, 7, 8, 9]  [(0, false), (1, false), (2, true), (3, false), (4, false), (6, false), (5, false), (7, true), (9, true), (8, true), (10, false), (11, false), (12, false)] (by decide +kernel) rfl (by simp [*]; rfl) ?_ | refine AW.reg tok (by simp [*]; rfl) ?_ | refine AW.ifB (by simp [*]; rfl) ?_ | refine IfG.t ?_ | refine IfG.f ?_ | (refine IfG.p (fun hg => ?_) (fun hg => ?_) <;> (try (have hg' := hg; simp at hg'))) | (refine IfG.n (fun hg => ?_) (fun hg => ?_) <;> (try (have hg' := hg; simp at hg'))) | (refine OutOK.gateP (fun hg => ?_) (fun hg => ?_) <;> (try (have hg' := hg; simp at hg'))) | (refine OutOK.gateN (fun hg => ?_) (fun hg => ?_) <;> (try (have hg' := hg; simp at hg'))) | (refine IfG.g (fun hg => ?_) (fun hg => ?_) <;> (try (have hg' := hg; simp at hg'))) | (refine OutOK.gate (fun hg => ?_) (fun hg => ?_) <;> (try (have hg' := hg; simp at hg'))) | (refine OutOK.callF [] (by simp [*]; rfl) (by simp [*]; rfl) (by simp [*]; rfl) hb77 (by apply ca <;> first | assumption | exact Hd.out (by assumption) | ((try (clear e0)); (try (clear e1)); (try (clear e2)); (try (clear e3)); (try (clear e4)); (try (clear e5)); (try (clear e6)); (try (clear e7)); (try (clear e8)); (try (clear e9)); (try (clear e10)); (try (clear e11)); omega)) ⟨by simp [*], by simp [*], by simp [*], by simp [*], by simp [*]⟩ (by simp [*]) (by simp [*]; rfl) ?_) | (refine OutOK.callF [] (by simp [*]; rfl) (by simp [*]; rfl) (by simp [*]; rfl) hb80 (by apply cc <;> first | assumption | exact Hd.out (by assumption) | ((try (clear e0)); (try (clear e1)); (try (clear e2)); (try (clear e3)); (try (clear e4)); (try (clear e5)); (try (clear e6)); (try (clear e7)); (try (clear e8)); (try (clear e9)); (try (clear e10)); (try (clear e11)); omega)) ⟨by simp [*], by simp [*], by simp [*], by simp [*], by simp [*]⟩ (by simp [*]) (by simp [*]; rfl) ?_) | refine OutOK.run (by simp [*]; rfl) ?_ | refine AW.ret ?_ | refine AW.skip ?_ | refine AW.exit ?_ | refine fin_r ?_ | refine fin_n ?_ | refine AW.block ?_ | refine blockQ_n ?_ | refine blockQ_r ?_ | refine blockQ_e ?_ | refine blockQ_o rfl ?_)
    simp [Try.f79, hn]
def derB (l : List Smp) (n : Int) : Bool := goodS l && inR 1 l.length n
def derL (l : List Smp) (n : Int) : List Int := if derB l n = true then selI (derP l n) l else []
theorem c_impl_DerivedFrom (l : List Smp) (n : Int) (h : l.length ≤ 1048576) (hh : ∀ s ∈ l, SmpW s) : ACall Try.prog 22 [.v (.sl true 8 (smps l)), int n] [.x, .x] [.v (.sl false 1 (ints (derL l n))), boo (derB l n)] := by
  have cv := c_impl_IsValidSamples l (by omega) hh
  replace hh : Hd _ := hh
  cases hg : goodS l
  · have hb : derB l n = false := by simp [derB, hg]
    have hl : derL l n = [] := by simp [derL, hb]
    rw [hg] at cv
    rw [hb, hl]
    replace hg : Hd _ := hg
    clear hb hl
    refine ACall.of (N := 19) tok Try.func22 rfl rfl rfl (by simp) ?_
    repeat' (first | with_reducible refine OutOK.done ?_ | refine thenQ_n ?_ | refine thenQ_r ?_ | refine thenQ_e ?_ | refine AW.seq ?_ | refine AW.reg tok (by simp [*]; rfl) ?_ | refine AW.ifB (by simp [*]; rfl) ?_ | refine IfG.t ?_ | refine IfG.f ?_ | (refine IfG.p (fun hg => ?_) (fun hg => ?_) <;> (try (have hg' := hg; simp at hg'))) | (refine IfG.n (fun hg => ?_) (fun hg => ?_) <;> (try (have hg' := hg; simp at hg'))) | (refine OutOK.gateP (fun hg => ?_) (fun hg => ?_) <;> (try (have hg' := hg; simp at hg'))) | (refine OutOK.gateN (fun hg => ?_) (fun hg => ?_) <;> (try (have hg' := hg; simp at hg'))) | (refine IfG.g (fun hg => ?_) (fun hg => ?_) <;> (try (have hg' := hg; simp at hg'))) | (refine OutOK.gate (fun hg => ?_) (fun hg => ?_) <;> (try (have hg' := hg; simp at hg'))) | (refine OutOK.callF [] (by simp [*]; rfl) (by simp [*]; rfl) (by simp [*]; rfl) hb76 (by apply c_impl_within <;> first | assumption | exact Hd.out (by assumption) | ((try (clear e0)); (try (clear e1)); (try (clear e2)); (try (clear e3)); (try (clear e4)); (try (clear e5)); (try (clear e6)); (try (clear e7)); (try (clear e8)); (try (clear e9)); (try (clear e10)); (try (clear e11)); omega)) ⟨by simp [*], by simp [*], by simp [*], by simp [*], by simp [*]⟩ (by simp [*]) (by simp [*]; rfl) ?_) | (refine OutOK.callF [] (by simp [*]; rfl) (by simp [*]; rfl) (by simp [*]; rfl) hb78 (by apply c_impl_idsOf <;> first | assumption | exact Hd.out (by assumption) | ((try (clear e0)); (try (clear e1)); (try (clear e2)); (try (clear e3)); (try (clear e4)); (try (clear e5)); (try (clear e6)); (try (clear e7)); (try (clear e8)); (try (clear e9)); (try (clear e10)); (try (clear e11)); omega)) ⟨by simp [*], by simp [*], by simp [*], by simp [*], by simp [*]⟩ (by simp [*]) (by simp [*]; rfl) ?_) | (refine OutOK.callF [] (by simp [*]; rfl) (by simp [*]; rfl) (by simp [*]; rfl) hb72 (by apply cv <;> first | assumption | exact Hd.out (by assumption) | ((try (clear e0)); (try (clear e1)); (try (clear e2)); (try (clear e3)); (try (clear e4)); (try (clear e5)); (try (clear e6)); (try (clear e7)); (try (clear e8)); (try (clear e9)); (try (clear e10)); (try (clear e11)); omega)) ⟨by simp [*], by simp [*], by simp [*], by simp [*], by simp [*]⟩ (by simp [*]) (by simp [*]; rfl) ?_) | refine OutOK.run (by simp [*]; rfl) ?_ | refine AW.ret ?_ | refine AW.skip ?_ | refine AW.exit ?_ | refine fin_r ?_ | refine fin_n ?_ | refine AW.block ?_ | refine blockQ_n ?_ | refine blockQ_r ?_ | refine blockQ_e ?_ | refine blockQ_o rfl ?_)
    simp [Try.f22]
  · rw [hg] at cv
    have h16 := (goodS_at hg).1
    have ci := c_impl_idsOf2 l 79 [.sc (.int .i64 n)] [.sl true 8 (smps l)] (derP l n) h16 (by simp) (fun s hs => c_impl_DerivedFrom_1 l n s hg hs)
    cases hi : inR 1 l.length n
    · have hb : derB l n = false := by simp [derB, hi]
      have hl : derL l n = [] := by simp [derL, hb]
      rw [hb, hl]
      replace hg : Hd _ := hg
      clear hb hl ci
      refine ACall.of (N := 19) tok Try.func22 rfl rfl rfl (by simp) ?_
      repeat' (first | with_reducible refine OutOK.done ?_ | refine thenQ_n ?_ | refine thenQ_r ?_ | refine thenQ_e ?_ | refine AW.seq ?_ | refine AW.reg tok (by simp [*]; rfl) ?_ | refine AW.ifB (by simp [*]; rfl) ?_ | refine IfG.t ?_ | refine IfG.f ?_ | (refine IfG.p (fun hg => ?_) (fun hg => ?_) <;> (try (have hg' := hg; simp at hg'))) | (refine IfG.n (fun hg => ?_) (fun hg => ?_) <;> (try (have hg' := hg; simp at hg'))) | (refine OutOK.gateP (fun hg => ?_) (fun hg => ?_) <;> (try (have hg' := hg; simp at hg'))) | (refine OutOK.gateN (fun hg => ?_) (fun hg => ?_) <;> (try (have hg' := hg; simp at hg'))) | (refine IfG.g (fun hg => ?_) (fun hg => ?_) <;> (try (have hg' := hg; simp at hg'))) | (refine OutOK.gate (fun hg => ?_) (fun hg => ?_) <;> (try (have hg' := hg; simp at hg'))) | (refine OutOK.callF [] (by simp [*]; rfl) (by simp [*]; rfl) (by simp [*]; rfl) hb76 (by apply c_impl_within <;> first | assumption | exact Hd.out (by assumption) | ((try (clear e0)); (try (clear e1)); (try (clear e2)); (try (clear e3)); (try (clear e4)); (try (clear e5)); (try (clear e6)); (try (clear e7)); (try (clear e8)); (try (clear e9)); (try (clear e10)); (try (clear e11)); omega)) ⟨by simp [*], by simp [*], by simp [*], by simp [*], by simp [*]⟩ (by simp [*]) (by simp [*]; rfl) ?_) | (refine OutOK.callF [] (by simp [*]; rfl) (by simp [*]; rfl) (by simp [*]; rfl) hb78 (by apply c_impl_idsOf <;> first | assumption | exact Hd.out (by assumption) | ((try (clear e0)); (try (clear e1)); (try (clear e2)); (try (clear e3)); (try (clear e4)); (try (clear e5)); (try (clear e6)); (try (clear e7)); (try (clear e8)); (try (clear e9)); (try (clear e10)); (try (clear e11)); omega)) ⟨by simp [*], by simp [*], by simp [*], by simp [*], by simp [*]⟩ (by simp [*]) (by simp [*]; rfl) ?_) | (refine OutOK.callF [] (by simp [*]; rfl) (by simp [*]; rfl) (by simp [*]; rfl) hb72 (by apply cv <;> first | assumption | exact Hd.out (by assumption) | ((try (clear e0)); (try (clear e1)); (try (clear e2)); (try (clear e3)); (try (clear e4)); (try (clear e5)); (try (clear e6)); (try (clear e7)); (try (clear e8)); (try (clear e9)); (try (clear e10)); (try (clear e11)); omega)) ⟨by simp [*], by simp [*], by simp [*], by simp [*], by simp [*]⟩ (by simp [*]) (by simp [*]; rfl) ?_) | refine OutOK.run (by simp [*]; rfl) ?_ | refine AW.ret ?_ | refine AW.skip ?_ | refine AW.exit ?_ | refine fin_r ?_ | refine fin_n ?_ | refine AW.block ?_ | refine blockQ_n ?_ | refine blockQ_r ?_ | refine blockQ_e ?_ | refine blockQ_o rfl ?_)
      simp [Try.f22]
    · have hb : derB l n = true := by simp [derB, hi, hg]
      have hl : derL l n = selI (derP l n) l := by simp [derL, hb]
      rw [hb, hl]
      generalize selI (derP l n) l = sl at *
      replace hg : Hd _ := hg
      clear hb hl
      refine ACall.of (N := 19) tok Try.func22 rfl rfl rfl (by simp) ?_
      repeat' (first | with_reducible refine OutOK.done ?_ | refine thenQ_n ?_ | refine thenQ_r ?_ | refine thenQ_e ?_ | refine AW.seq ?_ | refine AW.reg tok (by simp [*]; rfl) ?_ | refine AW.ifB (by simp [*]; rfl) ?_ | refine IfG.t ?_ | refine IfG.f ?_ | (refine IfG.p (fun hg => ?_) (fun hg => ?_) <;> (try (have hg' := hg; simp at hg'))) | (refine IfG.n (fun hg => ?_) (fun hg => ?_) <;> (try (have hg' := hg; simp at hg'))) | (refine OutOK.gateP (fun hg => ?_) (fun hg => ?_) <;> (try (have hg' := hg; simp at hg'))) | (refine OutOK.gateN (fun hg => ?_) (fun hg => ?_) <;> (try (have hg' := hg; simp at hg'))) | (refine IfG.g (fun hg => ?_) (fun hg => ?_) <;> (try (have hg' := hg; simp at hg'))) | (refine OutOK.gate (fun hg => ?_) (fun hg => ?_) <;> (try (have hg' := hg; simp at hg'))) | (refine OutOK.callF [] (by simp [*]; rfl) (by simp [*]; rfl) (by simp [*]; rfl) hb76 (by apply c_impl_within <;> first | assumption | exact Hd.out (by assumption) | ((try (clear e0)); (try (clear e1)); (try (clear e2)); (try (clear e3)); (try (clear e4)); (try (clear e5)); (try (clear e6)); (try (clear e7)); (try (clear e8)); (try (clear e9)); (try (clear e10)); (try (clear e11)); omega)) ⟨by simp [*], by simp [*], by simp [*], by simp [*], by simp [*]⟩ (by simp [*]) (by simp [*]; rfl) ?_) | (refine OutOK.callF [] (by simp [*]; rfl) (by simp [*]; rfl) (by simp [*]; rfl) hb72 (by apply cv <;> first | assumption | exact Hd.out (by assumption) | ((try (clear e0)); (try (clear e1)); (try (clear e2)); (try (clear e3)); (try (clear e4)); (try (clear e5)); (try (clear e6)); (try (clear e7)); (try (clear e8)); (try (clear e9)); (try (clear e10)); (try (clear e11)); omega)) ⟨by simp [*], by simp [*], by simp [*], by simp [*], by simp [*]⟩ (by simp [*]) (by simp [*]; rfl) ?_) | (refine OutOK.callF [] (by simp [*]; rfl) (by simp [*]; rfl) (by simp [*]; rfl) hb78 (by apply ci <;> first | assumption | exact Hd.out (by assumption) | ((try (clear e0)); (try (clear e1)); (try (clear e2)); (try (clear e3)); (try (clear e4)); (try (clear e5)); (try (clear e6)); (try (clear e7)); (try (clear e8)); (try (clear e9)); (try (clear e10)); (try (clear e11)); omega)) ⟨by simp [*], by simp [*], by simp [*], by simp [*], by simp [*]⟩ (by simp [*]) (by simp [*]; rfl) ?_) | refine OutOK.run (by simp [*]; rfl) ?_ | refine AW.ret ?_ | refine AW.skip ?_ | refine AW.exit ?_ | refine fin_r ?_ | refine fin_n ?_ | refine AW.block ?_ | refine blockQ_n ?_ | refine blockQ_r ?_ | refine blockQ_e ?_ | refine blockQ_o rfl ?_)
      simp [Try.f22]
end Go.Proofs.Ytodombkmnnggeaa.EngS


set_option linter.unusedSimpArgs false
set_option linter.unusedVariables false
set_option maxHeartbeats 4000000
set_option maxRecDepth 100000
namespace Go.Proofs.Ytodombkmnnggeaa.EngS
open Go Go.Proofs Go.Eng Go.RowKit
attribute [local irreducible] Go.RowKit.wrap64
abbrev stpD (kd sm am : Int) (ho : ByteArray) : D := .g [.sc (.int .i64 kd), .sc (.int .i64 sm), .sc (.int .i64 am), .sc (.string ho)]
def stepR (l : List Smp) (kd sm am : Int) (ho : ByteArray) : Option (List Smp) :=
  if kd = 1 then some (l ++ [⟨(l.length + 1 : Nat), 0, sm, am, am, 0, 0, ho⟩])
  else if inR 1 l.length sm = true then
    let i := (sm - 1).toNat
    let x := l[i]?.getD default
    if kd = 2 ∧ am = 0 then some (l.set i ⟨x.id, x.par, x.ctx, x.tak, x.lef, x.usd, x.giv, ho⟩)
    else if kd = 3 ∧ inR 1 x.lef am = true then some (l.set i ⟨x.id, x.par, x.ctx, x.tak, wrap64 (x.lef - am), x.usd, wrap64 (x.giv + am), x.hol⟩ ++ [⟨(l.length + 1 : Nat), x.id, x.ctx, am, am, 0, 0, ho⟩])
    else if kd = 4 ∧ inR 1 x.lef am = true ∧ ho.toList = [] then some (l.set i ⟨x.id, x.par, x.ctx, x.tak, wrap64 (x.lef - am), wrap64 (x.usd + am), x.giv, x.hol⟩)
    else none
  else none
def stepB (l : List Smp) (kd sm am : Int) (ho : ByteArray) : Bool := match stepR l kd sm am ho with | some m => goodS m | none => false
def stepL (l : List Smp) (kd sm am : Int) (ho : ByteArray) : List Smp := if stepB l kd sm am ho = true then (stepR l kd sm am ho).getD [] else []
theorem step_some {l kd sm am ho m} (h : stepR l kd sm am ho = some m) : stepB l kd sm am ho = goodS m ∧ (goodS m = true → stepL l kd sm am ho = m) := by
  have : stepB l kd sm am ho = goodS m := by simp [stepB, h]
  exact ⟨this, fun hg => by simp [stepL, this, hg, h]⟩
theorem step_none {l kd sm am ho} (h : stepR l kd sm am ho = none) : stepB l kd sm am ho = false := by simp [stepB, h]
theorem w64_in (x : Int) : -9223372036854775808 ≤ wrap64 x ∧ wrap64 x < 9223372036854775808 := by unfold Go.RowKit.wrap64; omega
theorem W_app {l : List Smp} {x : Smp} (h : ∀ s ∈ l, SmpW s) (hx : SmpW x) : ∀ s ∈ l ++ [x], SmpW s := by
  intro s hs
  rw [List.mem_append] at hs
  rcases hs with hs | hs
  · exact h s hs
  · simp at hs; subst hs; exact hx
theorem W_set {l : List Smp} {x : Smp} {k : Nat} (h : ∀ s ∈ l, SmpW s) (hx : SmpW x) : ∀ s ∈ l.set k x, SmpW s := by
  intro s hs
  rcases List.mem_or_eq_of_mem_set hs with hs | hs
  · exact h s hs
  · subst hs; exact hx
theorem s_l20_1 (l : List Smp) (kd sm am : Int) (ho : ByteArray) (h : l.length ≤ 1000) (hh : ∀ s ∈ l, SmpW s) (hho : ho.size ≤ 9223372036854775807) (h1 : kd = 1) : ACallX Try.prog 69 [.v (.sl true 8 (smps l)), stpD kd sm am ho] (fun x : List Smp => x.length ≤ l.length + 1 ∧ (∀ s ∈ x, SmpW s) ∧ (stepB l kd sm am ho = true → x = stepL l kd sm am ho)) (fun _ => [.x, .x]) (fun x => [.v (.sl false 8 (smps x)), boo (stepB l kd sm am ho)]) := by
  obtain ⟨n1, hn1⟩ : ∃ n1, n1 = l.length + 1 := ⟨_, rfl⟩
  have e1 : wrap64 ((l.length : Int) + 1) = (n1 : Int) := by rw [w64 (by omega) (by omega)]; omega
  have b1 : l.length * 72 ≤ 140737488355328 := by omega
  have b2 : l.length ≤ 4611686018427387904 := by omega
  have b3 : (l.length + 1) * 72 ≤ 140737488355328 := by omega
  have b4 : l.length + 1 ≤ 4611686018427387904 := by omega
  have hh' : Hd (∀ s ∈ l, SmpW s) := hh
  have hn1' : Hd _ := hn1
  clear hn1
  subst h1
  obtain ⟨hb, hl⟩ := step_some (show stepR l 1 sm am ho = some (l ++ [⟨n1, 0, sm, am, am, 0, 0, ho⟩]) by simp [stepR, hn1'.out])
  have hmw : ∀ s ∈ l ++ [(⟨n1, 0, sm, am, am, 0, 0, ho⟩ : Smp)], SmpW s := W_app hh ⟨hho, by simp, by simp⟩
  have cv := c_spec_l20Good _ (by simp; omega) hmw
  rw [hb]
  generalize goodS (l ++ [(⟨n1, 0, sm, am, am, 0, 0, ho⟩ : Smp)]) = gb at *
  replace hl : Hd _ := hl
  replace hmw : Hd _ := hmw
  clear hb hh
  refine ACallX.of (N := 135) tok Try.func69 rfl rfl rfl (by simp) ?_
  repeat' (first | with_reducible refine OutOK.done ?_ | refine thenQ_n ?_ | refine thenQ_r ?_ | refine thenQ_e ?_ | refine AW.seq ?_ | refine AW.reg tok (by simp [*]; rfl) ?_ | refine AW.ifB (by simp [*]; rfl) ?_ | refine IfG.t ?_ | refine IfG.f ?_ | (refine IfG.p (fun hg => ?_) (fun hg => ?_) <;> (try (have hg' := hg; simp at hg'))) | (refine IfG.n (fun hg => ?_) (fun hg => ?_) <;> (try (have hg' := hg; simp at hg'))) | (refine OutOK.gateP (fun hg => ?_) (fun hg => ?_) <;> (try (have hg' := hg; simp at hg'))) | (refine OutOK.gateN (fun hg => ?_) (fun hg => ?_) <;> (try (have hg' := hg; simp at hg'))) | (refine IfG.g (fun hg => ?_) (fun hg => ?_) <;> (try (have hg' := hg; simp at hg'))) | (refine OutOK.gate (fun hg => ?_) (fun hg => ?_) <;> (try (have hg' := hg; simp at hg'))) | (refine OutOK.callF [] (by simp [*]; rfl) (by simp [*]; rfl) (by simp [*]; rfl) hb95 (by apply c_spec_l1In <;> first | assumption | exact Hd.out (by assumption) | ((try (clear e0)); (try (clear e1)); (try (clear e2)); (try (clear e3)); (try (clear e4)); (try (clear e5)); (try (clear e6)); (try (clear e7)); (try (clear e8)); (try (clear e9)); (try (clear e10)); (try (clear e11)); omega)) ⟨by simp [*], by simp [*], by simp [*], by simp [*], by simp [*]⟩ (by simp [*]) (by simp [*]; rfl) ?_) | (refine OutOK.callF [] (by simp [*]; rfl) (by simp [*]; rfl) (by simp [*]; rfl) hb70 (by apply cv <;> first | assumption | exact Hd.out (by assumption) | ((try (clear e0)); (try (clear e1)); (try (clear e2)); (try (clear e3)); (try (clear e4)); (try (clear e5)); (try (clear e6)); (try (clear e7)); (try (clear e8)); (try (clear e9)); (try (clear e10)); (try (clear e11)); omega)) ⟨by simp [*], by simp [*], by simp [*], by simp [*], by simp [*]⟩ (by simp [*]) (by simp [*]; rfl) ?_) | refine OutOK.run (by simp [*]; rfl) ?_ | refine AW.ret ?_ | refine AW.skip ?_ | refine AW.exit ?_ | refine fin_r ?_ | refine fin_n ?_ | refine AW.block ?_ | refine blockQ_n ?_ | refine blockQ_r ?_ | refine blockQ_e ?_ | refine blockQ_o rfl ?_)
  exact ⟨l ++ [⟨n1, 0, sm, am, am, 0, 0, ho⟩], ⟨by simp, hmw.out, fun e => (hl.out e).symm⟩, by simp [Try.f69]⟩
theorem s_l20_R (l : List Smp) (kd sm am : Int) (ho : ByteArray) (h : l.length ≤ 1000) (hh : ∀ s ∈ l, SmpW s) (hho : ho.size ≤ 9223372036854775807) (h1 : ¬ kd = 1) (hR : inR 1 l.length sm = false) : ACallX Try.prog 69 [.v (.sl true 8 (smps l)), stpD kd sm am ho] (fun x : List Smp => x.length ≤ l.length + 1 ∧ (∀ s ∈ x, SmpW s) ∧ (stepB l kd sm am ho = true → x = stepL l kd sm am ho)) (fun _ => [.x, .x]) (fun x => [.v (.sl false 8 (smps x)), boo (stepB l kd sm am ho)]) := by
  obtain ⟨n1, hn1⟩ : ∃ n1, n1 = l.length + 1 := ⟨_, rfl⟩
  have e1 : wrap64 ((l.length : Int) + 1) = (n1 : Int) := by rw [w64 (by omega) (by omega)]; omega
  have b1 : l.length * 72 ≤ 140737488355328 := by omega
  have b2 : l.length ≤ 4611686018427387904 := by omega
  have b3 : (l.length + 1) * 72 ≤ 140737488355328 := by omega
  have b4 : l.length + 1 ≤ 4611686018427387904 := by omega
  have hh' : Hd (∀ s ∈ l, SmpW s) := hh
  have hn1' : Hd _ := hn1
  clear hn1
  have hb := step_none (show stepR l kd sm am ho = none by simp [stepR, h1, hR])
  rw [hb]
  clear hb hh
  refine ACallX.of (N := 135) tok Try.func69 rfl rfl rfl (by simp) ?_
  repeat' (first | with_reducible refine OutOK.done ?_ | refine thenQ_n ?_ | refine thenQ_r ?_ | refine thenQ_e ?_ | refine AW.seq ?_ | refine AW.reg tok (by simp [*]; rfl) ?_ | refine AW.ifB (by simp [*]; rfl) ?_ | refine IfG.t ?_ | refine IfG.f ?_ | (refine IfG.p (fun hg => ?_) (fun hg => ?_) <;> (try (have hg' := hg; simp at hg'))) | (refine IfG.n (fun hg => ?_) (fun hg => ?_) <;> (try (have hg' := hg; simp at hg'))) | (refine OutOK.gateP (fun hg => ?_) (fun hg => ?_) <;> (try (have hg' := hg; simp at hg'))) | (refine OutOK.gateN (fun hg => ?_) (fun hg => ?_) <;> (try (have hg' := hg; simp at hg'))) | (refine IfG.g (fun hg => ?_) (fun hg => ?_) <;> (try (have hg' := hg; simp at hg'))) | (refine OutOK.gate (fun hg => ?_) (fun hg => ?_) <;> (try (have hg' := hg; simp at hg'))) | (refine OutOK.callF [] (by simp [*]; rfl) (by simp [*]; rfl) (by simp [*]; rfl) hb70 (by apply c_spec_l20Good <;> first | assumption | exact Hd.out (by assumption) | ((try (clear e0)); (try (clear e1)); (try (clear e2)); (try (clear e3)); (try (clear e4)); (try (clear e5)); (try (clear e6)); (try (clear e7)); (try (clear e8)); (try (clear e9)); (try (clear e10)); (try (clear e11)); omega)) ⟨by simp [*], by simp [*], by simp [*], by simp [*], by simp [*]⟩ (by simp [*]) (by simp [*]; rfl) ?_) | (refine OutOK.callF [] (by simp [*]; rfl) (by simp [*]; rfl) (by simp [*]; rfl) hb95 (by apply c_spec_l1In <;> first | assumption | exact Hd.out (by assumption) | ((try (clear e0)); (try (clear e1)); (try (clear e2)); (try (clear e3)); (try (clear e4)); (try (clear e5)); (try (clear e6)); (try (clear e7)); (try (clear e8)); (try (clear e9)); (try (clear e10)); (try (clear e11)); omega)) ⟨by simp [*], by simp [*], by simp [*], by simp [*], by simp [*]⟩ (by simp [*]) (by simp [*]; rfl) ?_) | refine OutOK.run (by simp [*]; rfl) ?_ | refine AW.ret ?_ | refine AW.skip ?_ | refine AW.exit ?_ | refine fin_r ?_ | refine fin_n ?_ | refine AW.block ?_ | refine blockQ_n ?_ | refine blockQ_r ?_ | refine blockQ_e ?_ | refine blockQ_o rfl ?_)
  exact ⟨l, ⟨by simp, hh'.out, fun e => by simp at e⟩, by simp [Try.f69]⟩
theorem s_l20_2 (l : List Smp) (kd sm am : Int) (ho : ByteArray) (h : l.length ≤ 1000) (hh : ∀ s ∈ l, SmpW s) (hho : ho.size ≤ 9223372036854775807) (h1 : ¬ kd = 1) (hR : inR 1 l.length sm = true) (h2 : kd = 2 ∧ am = 0) : ACallX Try.prog 69 [.v (.sl true 8 (smps l)), stpD kd sm am ho] (fun x : List Smp => x.length ≤ l.length + 1 ∧ (∀ s ∈ x, SmpW s) ∧ (stepB l kd sm am ho = true → x = stepL l kd sm am ho)) (fun _ => [.x, .x]) (fun x => [.v (.sl false 8 (smps x)), boo (stepB l kd sm am ho)]) := by
  obtain ⟨n1, hn1⟩ : ∃ n1, n1 = l.length + 1 := ⟨_, rfl⟩
  have e1 : wrap64 ((l.length : Int) + 1) = (n1 : Int) := by rw [w64 (by omega) (by omega)]; omega
  have b1 : l.length * 72 ≤ 140737488355328 := by omega
  have b2 : l.length ≤ 4611686018427387904 := by omega
  have b3 : (l.length + 1) * 72 ≤ 140737488355328 := by omega
  have b4 : l.length + 1 ≤ 4611686018427387904 := by omega
  have hh' : Hd (∀ s ∈ l, SmpW s) := hh
  have hn1' : Hd _ := hn1
  clear hn1
  have hr := inR_iff.1 hR
  obtain ⟨k, hk⟩ : ∃ k : Nat, sm = ((k + 1 : Nat) : Int) := ⟨(sm - 1).toNat, by ((try (clear e0)); (try (clear e1)); (try (clear e2)); (try (clear e3)); (try (clear e4)); (try (clear e5)); (try (clear e6)); (try (clear e7)); (try (clear e8)); (try (clear e9)); (try (clear e10)); (try (clear e11)); omega)⟩
  have e2 : wrap64 (sm - 1) = (k : Int) := by rw [w64 (by ((try (clear e0)); (try (clear e1)); (try (clear e2)); (try (clear e3)); (try (clear e4)); (try (clear e5)); (try (clear e6)); (try (clear e7)); (try (clear e8)); (try (clear e9)); (try (clear e10)); (try (clear e11)); omega)) (by ((try (clear e0)); (try (clear e1)); (try (clear e2)); (try (clear e3)); (try (clear e4)); (try (clear e5)); (try (clear e6)); (try (clear e7)); (try (clear e8)); (try (clear e9)); (try (clear e10)); (try (clear e11)); omega))]; ((try (clear e0)); (try (clear e1)); (try (clear e2)); (try (clear e3)); (try (clear e4)); (try (clear e5)); (try (clear e6)); (try (clear e7)); (try (clear e8)); (try (clear e9)); (try (clear e10)); (try (clear e11)); omega)
  have hkl : k < l.length := by ((try (clear e0)); (try (clear e1)); (try (clear e2)); (try (clear e3)); (try (clear e4)); (try (clear e5)); (try (clear e6)); (try (clear e7)); (try (clear e8)); (try (clear e9)); (try (clear e10)); (try (clear e11)); omega)
  have hi : (sm - 1).toNat = k := by ((try (clear e0)); (try (clear e1)); (try (clear e2)); (try (clear e3)); (try (clear e4)); (try (clear e5)); (try (clear e6)); (try (clear e7)); (try (clear e8)); (try (clear e9)); (try (clear e10)); (try (clear e11)); omega)
  have hx : l[k]? = some l[k] := List.getElem?_eq_getElem hkl
  have hxw := hh l[k] (List.getElem_mem hkl)
  have hsR : Hd (stepR l kd sm am ho = (if kd = 2 ∧ am = 0 then some (l.set k ⟨l[k].id, l[k].par, l[k].ctx, l[k].tak, l[k].lef, l[k].usd, l[k].giv, ho⟩)
    else if kd = 3 ∧ inR 1 l[k].lef am = true then some (l.set k ⟨l[k].id, l[k].par, l[k].ctx, l[k].tak, wrap64 (l[k].lef - am), l[k].usd, wrap64 (l[k].giv + am), l[k].hol⟩ ++ [⟨n1, l[k].id, l[k].ctx, am, am, 0, 0, ho⟩])
    else if kd = 4 ∧ inR 1 l[k].lef am = true ∧ ho.toList = [] then some (l.set k ⟨l[k].id, l[k].par, l[k].ctx, l[k].tak, wrap64 (l[k].lef - am), wrap64 (l[k].usd + am), l[k].giv, l[k].hol⟩)
    else none)) := by
    simp only [Hd, stepR, if_neg h1, hR, if_true, hi, hx, Option.getD_some, ← hn1'.out]
  have hk' : Hd _ := hk
  clear hk hi hx hr
  obtain ⟨hb, hl⟩ := step_some (hsR.out.trans (by rw [if_pos h2]))
  obtain ⟨rfl, rfl⟩ := h2
  have hmw := W_set (x := ⟨l[k].id, l[k].par, l[k].ctx, l[k].tak, l[k].lef, l[k].usd, l[k].giv, ho⟩) (k := k) hh ⟨hho, hxw.2⟩
  have cv := c_spec_l20Good _ (by simp; omega) hmw
  rw [hb]
  generalize goodS (l.set k ⟨l[k].id, l[k].par, l[k].ctx, l[k].tak, l[k].lef, l[k].usd, l[k].giv, ho⟩) = gb at *
  replace hl : Hd _ := hl
  replace hmw : Hd _ := hmw
  clear hb hh hxw
  refine ACallX.of (N := 135) tok Try.func69 rfl rfl rfl (by simp) ?_
  repeat' (first | with_reducible refine OutOK.done ?_ | refine thenQ_n ?_ | refine thenQ_r ?_ | refine thenQ_e ?_ | refine AW.seq ?_ | refine AW.reg tok (by simp [*]; rfl) ?_ | refine AW.ifB (by simp [*]; rfl) ?_ | refine IfG.t ?_ | refine IfG.f ?_ | (refine IfG.p (fun hg => ?_) (fun hg => ?_) <;> (try (have hg' := hg; simp at hg'))) | (refine IfG.n (fun hg => ?_) (fun hg => ?_) <;> (try (have hg' := hg; simp at hg'))) | (refine OutOK.gateP (fun hg => ?_) (fun hg => ?_) <;> (try (have hg' := hg; simp at hg'))) | (refine OutOK.gateN (fun hg => ?_) (fun hg => ?_) <;> (try (have hg' := hg; simp at hg'))) | (refine IfG.g (fun hg => ?_) (fun hg => ?_) <;> (try (have hg' := hg; simp at hg'))) | (refine OutOK.gate (fun hg => ?_) (fun hg => ?_) <;> (try (have hg' := hg; simp at hg'))) | (refine OutOK.callF [] (by simp [*]; rfl) (by simp [*]; rfl) (by simp [*]; rfl) hb95 (by apply c_spec_l1In <;> first | assumption | exact Hd.out (by assumption) | ((try (clear e0)); (try (clear e1)); (try (clear e2)); (try (clear e3)); (try (clear e4)); (try (clear e5)); (try (clear e6)); (try (clear e7)); (try (clear e8)); (try (clear e9)); (try (clear e10)); (try (clear e11)); omega)) ⟨by simp [*], by simp [*], by simp [*], by simp [*], by simp [*]⟩ (by simp [*]) (by simp [*]; rfl) ?_) | (refine OutOK.callF [] (by simp [*]; rfl) (by simp [*]; rfl) (by simp [*]; rfl) hb70 (by apply cv <;> first | assumption | exact Hd.out (by assumption) | ((try (clear e0)); (try (clear e1)); (try (clear e2)); (try (clear e3)); (try (clear e4)); (try (clear e5)); (try (clear e6)); (try (clear e7)); (try (clear e8)); (try (clear e9)); (try (clear e10)); (try (clear e11)); omega)) ⟨by simp [*], by simp [*], by simp [*], by simp [*], by simp [*]⟩ (by simp [*]) (by simp [*]; rfl) ?_) | refine OutOK.run (by simp [*]; rfl) ?_ | refine AW.ret ?_ | refine AW.skip ?_ | refine AW.exit ?_ | refine fin_r ?_ | refine fin_n ?_ | refine AW.block ?_ | refine blockQ_n ?_ | refine blockQ_r ?_ | refine blockQ_e ?_ | refine blockQ_o rfl ?_)
  exact ⟨l.set k ⟨l[k].id, l[k].par, l[k].ctx, l[k].tak, l[k].lef, l[k].usd, l[k].giv, ho⟩, ⟨by simp, hmw.out, fun e => (hl.out e).symm⟩, by simp [Try.f69]⟩
theorem s_l20_3 (l : List Smp) (kd sm am : Int) (ho : ByteArray) (h : l.length ≤ 1000) (hh : ∀ s ∈ l, SmpW s) (hho : ho.size ≤ 9223372036854775807) (h1 : ¬ kd = 1) (hR : inR 1 l.length sm = true) (h2 : ¬ (kd = 2 ∧ am = 0)) (h3' : ∀ (k : Nat) (hk : k < l.length), sm = ((k + 1 : Nat) : Int) → kd = 3 ∧ inR 1 l[k].lef am = true) : ACallX Try.prog 69 [.v (.sl true 8 (smps l)), stpD kd sm am ho] (fun x : List Smp => x.length ≤ l.length + 1 ∧ (∀ s ∈ x, SmpW s) ∧ (stepB l kd sm am ho = true → x = stepL l kd sm am ho)) (fun _ => [.x, .x]) (fun x => [.v (.sl false 8 (smps x)), boo (stepB l kd sm am ho)]) := by
  obtain ⟨n1, hn1⟩ : ∃ n1, n1 = l.length + 1 := ⟨_, rfl⟩
  have e1 : wrap64 ((l.length : Int) + 1) = (n1 : Int) := by rw [w64 (by omega) (by omega)]; omega
  have b1 : l.length * 72 ≤ 140737488355328 := by omega
  have b2 : l.length ≤ 4611686018427387904 := by omega
  have b3 : (l.length + 1) * 72 ≤ 140737488355328 := by omega
  have b4 : l.length + 1 ≤ 4611686018427387904 := by omega
  have hh' : Hd (∀ s ∈ l, SmpW s) := hh
  have hn1' : Hd _ := hn1
  clear hn1
  have hr := inR_iff.1 hR
  obtain ⟨k, hk⟩ : ∃ k : Nat, sm = ((k + 1 : Nat) : Int) := ⟨(sm - 1).toNat, by ((try (clear e0)); (try (clear e1)); (try (clear e2)); (try (clear e3)); (try (clear e4)); (try (clear e5)); (try (clear e6)); (try (clear e7)); (try (clear e8)); (try (clear e9)); (try (clear e10)); (try (clear e11)); omega)⟩
  have e2 : wrap64 (sm - 1) = (k : Int) := by rw [w64 (by ((try (clear e0)); (try (clear e1)); (try (clear e2)); (try (clear e3)); (try (clear e4)); (try (clear e5)); (try (clear e6)); (try (clear e7)); (try (clear e8)); (try (clear e9)); (try (clear e10)); (try (clear e11)); omega)) (by ((try (clear e0)); (try (clear e1)); (try (clear e2)); (try (clear e3)); (try (clear e4)); (try (clear e5)); (try (clear e6)); (try (clear e7)); (try (clear e8)); (try (clear e9)); (try (clear e10)); (try (clear e11)); omega))]; ((try (clear e0)); (try (clear e1)); (try (clear e2)); (try (clear e3)); (try (clear e4)); (try (clear e5)); (try (clear e6)); (try (clear e7)); (try (clear e8)); (try (clear e9)); (try (clear e10)); (try (clear e11)); omega)
  have hkl : k < l.length := by ((try (clear e0)); (try (clear e1)); (try (clear e2)); (try (clear e3)); (try (clear e4)); (try (clear e5)); (try (clear e6)); (try (clear e7)); (try (clear e8)); (try (clear e9)); (try (clear e10)); (try (clear e11)); omega)
  have hi : (sm - 1).toNat = k := by ((try (clear e0)); (try (clear e1)); (try (clear e2)); (try (clear e3)); (try (clear e4)); (try (clear e5)); (try (clear e6)); (try (clear e7)); (try (clear e8)); (try (clear e9)); (try (clear e10)); (try (clear e11)); omega)
  have hx : l[k]? = some l[k] := List.getElem?_eq_getElem hkl
  have hxw := hh l[k] (List.getElem_mem hkl)
  have hsR : Hd (stepR l kd sm am ho = (if kd = 2 ∧ am = 0 then some (l.set k ⟨l[k].id, l[k].par, l[k].ctx, l[k].tak, l[k].lef, l[k].usd, l[k].giv, ho⟩)
    else if kd = 3 ∧ inR 1 l[k].lef am = true then some (l.set k ⟨l[k].id, l[k].par, l[k].ctx, l[k].tak, wrap64 (l[k].lef - am), l[k].usd, wrap64 (l[k].giv + am), l[k].hol⟩ ++ [⟨n1, l[k].id, l[k].ctx, am, am, 0, 0, ho⟩])
    else if kd = 4 ∧ inR 1 l[k].lef am = true ∧ ho.toList = [] then some (l.set k ⟨l[k].id, l[k].par, l[k].ctx, l[k].tak, wrap64 (l[k].lef - am), wrap64 (l[k].usd + am), l[k].giv, l[k].hol⟩)
    else none)) := by
    simp only [Hd, stepR, if_neg h1, hR, if_true, hi, hx, Option.getD_some, ← hn1'.out]
  have hk' : Hd _ := hk
  have h3 := h3' k hkl hk
  clear h3'
  clear hk hi hx hr
  obtain ⟨hb, hl⟩ := step_some (hsR.out.trans (by rw [if_neg h2, if_pos h3]))
  obtain ⟨rfl, h3⟩ := h3
  have hmw := W_app (x := ⟨n1, l[k].id, l[k].ctx, am, am, 0, 0, ho⟩) (W_set (x := ⟨l[k].id, l[k].par, l[k].ctx, l[k].tak, wrap64 (l[k].lef - am), l[k].usd, wrap64 (l[k].giv + am), l[k].hol⟩) (k := k) hh ⟨hxw.1, w64_in _⟩) ⟨hho, by simp, by simp⟩
  have cv := c_spec_l20Good _ (by simp; omega) hmw
  rw [hb]
  generalize goodS (l.set k ⟨l[k].id, l[k].par, l[k].ctx, l[k].tak, wrap64 (l[k].lef - am), l[k].usd, wrap64 (l[k].giv + am), l[k].hol⟩ ++ [⟨n1, l[k].id, l[k].ctx, am, am, 0, 0, ho⟩]) = gb at *
  replace hl : Hd _ := hl
  replace hmw : Hd _ := hmw
  have hkl2 : k < l.length + 1 := by ((try (clear e0)); (try (clear e1)); (try (clear e2)); (try (clear e3)); (try (clear e4)); (try (clear e5)); (try (clear e6)); (try (clear e7)); (try (clear e8)); (try (clear e9)); (try (clear e10)); (try (clear e11)); omega)
  have hkl3 : (k : Int) < (l.length : Int) + 1 := by ((try (clear e0)); (try (clear e1)); (try (clear e2)); (try (clear e3)); (try (clear e4)); (try (clear e5)); (try (clear e6)); (try (clear e7)); (try (clear e8)); (try (clear e9)); (try (clear e10)); (try (clear e11)); omega)
  clear hb hh hxw h2 h1 hsR
  refine ACallX.of (N := 135) tok Try.func69 rfl rfl rfl (by simp) ?_
  repeat' (first | with_reducible refine OutOK.done ?_ | refine thenQ_n ?_ | refine thenQ_r ?_ | refine thenQ_e ?_ | refine AW.seq ?_ | refine AW.reg tok (by simp (maxSteps := 3000000) [*]; rfl) ?_ | refine AW.ifB (by simp (maxSteps := 3000000) [*]; rfl) ?_ | refine IfG.t ?_ | refine IfG.f ?_ | (refine IfG.p (fun hg => ?_) (fun hg => ?_) <;> (try (have hg' := hg; simp at hg'))) | (refine IfG.n (fun hg => ?_) (fun hg => ?_) <;> (try (have hg' := hg; simp at hg'))) | (refine OutOK.gateP (fun hg => ?_) (fun hg => ?_) <;> (try (have hg' := hg; simp at hg'))) | (refine OutOK.gateN (fun hg => ?_) (fun hg => ?_) <;> (try (have hg' := hg; simp at hg'))) | (refine IfG.g (fun hg => ?_) (fun hg => ?_) <;> (try (have hg' := hg; simp at hg'))) | (refine OutOK.gate (fun hg => ?_) (fun hg => ?_) <;> (try (have hg' := hg; simp at hg'))) | (refine OutOK.callF [] (by simp (maxSteps := 3000000) [*]; rfl) (by simp (maxSteps := 3000000) [*]; rfl) (by simp (maxSteps := 3000000) [*]; rfl) hb95 (by apply c_spec_l1In <;> first | assumption | exact Hd.out (by assumption) | ((try (clear e0)); (try (clear e1)); (try (clear e2)); (try (clear e3)); (try (clear e4)); (try (clear e5)); (try (clear e6)); (try (clear e7)); (try (clear e8)); (try (clear e9)); (try (clear e10)); (try (clear e11)); omega)) ⟨by simp (maxSteps := 3000000) [*], by simp (maxSteps := 3000000) [*], by simp (maxSteps := 3000000) [*], by simp (maxSteps := 3000000) [*], by simp (maxSteps := 3000000) [*]⟩ (by simp (maxSteps := 3000000) [*]) (by simp (maxSteps := 3000000) [*]; rfl) ?_) | (refine OutOK.callF [] (by simp (maxSteps := 3000000) [*]; rfl) (by simp (maxSteps := 3000000) [*]; rfl) (by simp (maxSteps := 3000000) [*]; rfl) hb70 (by apply cv <;> first | assumption | exact Hd.out (by assumption) | ((try (clear e0)); (try (clear e1)); (try (clear e2)); (try (clear e3)); (try (clear e4)); (try (clear e5)); (try (clear e6)); (try (clear e7)); (try (clear e8)); (try (clear e9)); (try (clear e10)); (try (clear e11)); omega)) ⟨by simp (maxSteps := 3000000) [*], by simp (maxSteps := 3000000) [*], by simp (maxSteps := 3000000) [*], by simp (maxSteps := 3000000) [*], by simp (maxSteps := 3000000) [*]⟩ (by simp (maxSteps := 3000000) [*]) (by simp (maxSteps := 3000000) [*]; rfl) ?_) | refine OutOK.run (by simp (maxSteps := 3000000) [*]; rfl) ?_ | refine AW.ret ?_ | refine AW.skip ?_ | refine AW.exit ?_ | refine fin_r ?_ | refine fin_n ?_ | refine AW.block ?_ | refine blockQ_n ?_ | refine blockQ_r ?_ | refine blockQ_e ?_ | refine blockQ_o rfl ?_)
  exact ⟨l.set k ⟨l[k].id, l[k].par, l[k].ctx, l[k].tak, wrap64 (l[k].lef - am), l[k].usd, wrap64 (l[k].giv + am), l[k].hol⟩ ++ [⟨n1, l[k].id, l[k].ctx, am, am, 0, 0, ho⟩], ⟨by simp, hmw.out, fun e => (hl.out e).symm⟩, by simp [Try.f69]⟩
theorem s_l20_4 (l : List Smp) (kd sm am : Int) (ho : ByteArray) (h : l.length ≤ 1000) (hh : ∀ s ∈ l, SmpW s) (hho : ho.size ≤ 9223372036854775807) (h1 : ¬ kd = 1) (hR : inR 1 l.length sm = true) (h2 : ¬ (kd = 2 ∧ am = 0)) (h3' : ∀ (k : Nat) (hk : k < l.length), sm = ((k + 1 : Nat) : Int) → ¬ (kd = 3 ∧ inR 1 l[k].lef am = true)) (h4' : ∀ (k : Nat) (hk : k < l.length), sm = ((k + 1 : Nat) : Int) → kd = 4 ∧ inR 1 l[k].lef am = true ∧ ho.toList = []) : ACallX Try.prog 69 [.v (.sl true 8 (smps l)), stpD kd sm am ho] (fun x : List Smp => x.length ≤ l.length + 1 ∧ (∀ s ∈ x, SmpW s) ∧ (stepB l kd sm am ho = true → x = stepL l kd sm am ho)) (fun _ => [.x, .x]) (fun x => [.v (.sl false 8 (smps x)), boo (stepB l kd sm am ho)]) := by
  obtain ⟨n1, hn1⟩ : ∃ n1, n1 = l.length + 1 := ⟨_, rfl⟩
  have e1 : wrap64 ((l.length : Int) + 1) = (n1 : Int) := by rw [w64 (by omega) (by omega)]; omega
  have b1 : l.length * 72 ≤ 140737488355328 := by omega
  have b2 : l.length ≤ 4611686018427387904 := by omega
  have b3 : (l.length + 1) * 72 ≤ 140737488355328 := by omega
  have b4 : l.length + 1 ≤ 4611686018427387904 := by omega
  have hh' : Hd (∀ s ∈ l, SmpW s) := hh
  have hn1' : Hd _ := hn1
  clear hn1
  have hr := inR_iff.1 hR
  obtain ⟨k, hk⟩ : ∃ k : Nat, sm = ((k + 1 : Nat) : Int) := ⟨(sm - 1).toNat, by ((try (clear e0)); (try (clear e1)); (try (clear e2)); (try (clear e3)); (try (clear e4)); (try (clear e5)); (try (clear e6)); (try (clear e7)); (try (clear e8)); (try (clear e9)); (try (clear e10)); (try (clear e11)); omega)⟩
  have e2 : wrap64 (sm - 1) = (k : Int) := by rw [w64 (by ((try (clear e0)); (try (clear e1)); (try (clear e2)); (try (clear e3)); (try (clear e4)); (try (clear e5)); (try (clear e6)); (try (clear e7)); (try (clear e8)); (try (clear e9)); (try (clear e10)); (try (clear e11)); omega)) (by ((try (clear e0)); (try (clear e1)); (try (clear e2)); (try (clear e3)); (try (clear e4)); (try (clear e5)); (try (clear e6)); (try (clear e7)); (try (clear e8)); (try (clear e9)); (try (clear e10)); (try (clear e11)); omega))]; ((try (clear e0)); (try (clear e1)); (try (clear e2)); (try (clear e3)); (try (clear e4)); (try (clear e5)); (try (clear e6)); (try (clear e7)); (try (clear e8)); (try (clear e9)); (try (clear e10)); (try (clear e11)); omega)
  have hkl : k < l.length := by ((try (clear e0)); (try (clear e1)); (try (clear e2)); (try (clear e3)); (try (clear e4)); (try (clear e5)); (try (clear e6)); (try (clear e7)); (try (clear e8)); (try (clear e9)); (try (clear e10)); (try (clear e11)); omega)
  have hi : (sm - 1).toNat = k := by ((try (clear e0)); (try (clear e1)); (try (clear e2)); (try (clear e3)); (try (clear e4)); (try (clear e5)); (try (clear e6)); (try (clear e7)); (try (clear e8)); (try (clear e9)); (try (clear e10)); (try (clear e11)); omega)
  have hx : l[k]? = some l[k] := List.getElem?_eq_getElem hkl
  have hxw := hh l[k] (List.getElem_mem hkl)
  have hsR : Hd (stepR l kd sm am ho = (if kd = 2 ∧ am = 0 then some (l.set k ⟨l[k].id, l[k].par, l[k].ctx, l[k].tak, l[k].lef, l[k].usd, l[k].giv, ho⟩)
    else if kd = 3 ∧ inR 1 l[k].lef am = true then some (l.set k ⟨l[k].id, l[k].par, l[k].ctx, l[k].tak, wrap64 (l[k].lef - am), l[k].usd, wrap64 (l[k].giv + am), l[k].hol⟩ ++ [⟨n1, l[k].id, l[k].ctx, am, am, 0, 0, ho⟩])
    else if kd = 4 ∧ inR 1 l[k].lef am = true ∧ ho.toList = [] then some (l.set k ⟨l[k].id, l[k].par, l[k].ctx, l[k].tak, wrap64 (l[k].lef - am), wrap64 (l[k].usd + am), l[k].giv, l[k].hol⟩)
    else none)) := by
    simp only [Hd, stepR, if_neg h1, hR, if_true, hi, hx, Option.getD_some, ← hn1'.out]
  have hk' : Hd _ := hk
  have h3 := h3' k hkl hk
  have h4 := h4' k hkl hk
  clear h3' h4'
  clear hk hi hx hr
  obtain ⟨hb, hl⟩ := step_some (hsR.out.trans (by rw [if_neg h2, if_neg h3, if_pos h4]))
  obtain ⟨rfl, h4, h5⟩ := h4
  have hmw := W_set (x := ⟨l[k].id, l[k].par, l[k].ctx, l[k].tak, wrap64 (l[k].lef - am), wrap64 (l[k].usd + am), l[k].giv, l[k].hol⟩) (k := k) hh ⟨hxw.1, hxw.2⟩
  have cv := c_spec_l20Good _ (by simp; omega) hmw
  rw [hb]
  generalize goodS (l.set k ⟨l[k].id, l[k].par, l[k].ctx, l[k].tak, wrap64 (l[k].lef - am), wrap64 (l[k].usd + am), l[k].giv, l[k].hol⟩) = gb at *
  replace hl : Hd _ := hl
  replace hmw : Hd _ := hmw
  clear hb hh hxw h2 h3
  refine ACallX.of (N := 135) tok Try.func69 rfl rfl rfl (by simp) ?_
  repeat' (first | with_reducible refine OutOK.done ?_ | refine thenQ_n ?_ | refine thenQ_r ?_ | refine thenQ_e ?_ | refine AW.seq ?_ | refine AW.reg tok (by simp [*]; rfl) ?_ | refine AW.ifB (by simp [*]; rfl) ?_ | refine IfG.t ?_ | refine IfG.f ?_ | (refine IfG.p (fun hg => ?_) (fun hg => ?_) <;> (try (have hg' := hg; simp at hg'))) | (refine IfG.n (fun hg => ?_) (fun hg => ?_) <;> (try (have hg' := hg; simp at hg'))) | (refine OutOK.gateP (fun hg => ?_) (fun hg => ?_) <;> (try (have hg' := hg; simp at hg'))) | (refine OutOK.gateN (fun hg => ?_) (fun hg => ?_) <;> (try (have hg' := hg; simp at hg'))) | (refine IfG.g (fun hg => ?_) (fun hg => ?_) <;> (try (have hg' := hg; simp at hg'))) | (refine OutOK.gate (fun hg => ?_) (fun hg => ?_) <;> (try (have hg' := hg; simp at hg'))) | (refine OutOK.callF [] (by simp [*]; rfl) (by simp [*]; rfl) (by simp [*]; rfl) hb95 (by apply c_spec_l1In <;> first | assumption | exact Hd.out (by assumption) | ((try (clear e0)); (try (clear e1)); (try (clear e2)); (try (clear e3)); (try (clear e4)); (try (clear e5)); (try (clear e6)); (try (clear e7)); (try (clear e8)); (try (clear e9)); (try (clear e10)); (try (clear e11)); omega)) ⟨by simp [*], by simp [*], by simp [*], by simp [*], by simp [*]⟩ (by simp [*]) (by simp [*]; rfl) ?_) | (refine OutOK.callF [] (by simp [*]; rfl) (by simp [*]; rfl) (by simp [*]; rfl) hb70 (by apply cv <;> first | assumption | exact Hd.out (by assumption) | ((try (clear e0)); (try (clear e1)); (try (clear e2)); (try (clear e3)); (try (clear e4)); (try (clear e5)); (try (clear e6)); (try (clear e7)); (try (clear e8)); (try (clear e9)); (try (clear e10)); (try (clear e11)); omega)) ⟨by simp [*], by simp [*], by simp [*], by simp [*], by simp [*]⟩ (by simp [*]) (by simp [*]; rfl) ?_) | refine OutOK.run (by simp [*]; rfl) ?_ | refine AW.ret ?_ | refine AW.skip ?_ | refine AW.exit ?_ | refine fin_r ?_ | refine fin_n ?_ | refine AW.block ?_ | refine blockQ_n ?_ | refine blockQ_r ?_ | refine blockQ_e ?_ | refine blockQ_o rfl ?_)
  exact ⟨l.set k ⟨l[k].id, l[k].par, l[k].ctx, l[k].tak, wrap64 (l[k].lef - am), wrap64 (l[k].usd + am), l[k].giv, l[k].hol⟩, ⟨by simp, hmw.out, fun e => (hl.out e).symm⟩, by simp [Try.f69]⟩
theorem s_l20_n (l : List Smp) (kd sm am : Int) (ho : ByteArray) (h : l.length ≤ 1000) (hh : ∀ s ∈ l, SmpW s) (hho : ho.size ≤ 9223372036854775807) (h1 : ¬ kd = 1) (hR : inR 1 l.length sm = true) (h2 : ¬ (kd = 2 ∧ am = 0)) (h3' : ∀ (k : Nat) (hk : k < l.length), sm = ((k + 1 : Nat) : Int) → ¬ (kd = 3 ∧ inR 1 l[k].lef am = true)) (h4' : ∀ (k : Nat) (hk : k < l.length), sm = ((k + 1 : Nat) : Int) → ¬ (kd = 4 ∧ inR 1 l[k].lef am = true ∧ ho.toList = [])) : ACallX Try.prog 69 [.v (.sl true 8 (smps l)), stpD kd sm am ho] (fun x : List Smp => x.length ≤ l.length + 1 ∧ (∀ s ∈ x, SmpW s) ∧ (stepB l kd sm am ho = true → x = stepL l kd sm am ho)) (fun _ => [.x, .x]) (fun x => [.v (.sl false 8 (smps x)), boo (stepB l kd sm am ho)]) := by
  obtain ⟨n1, hn1⟩ : ∃ n1, n1 = l.length + 1 := ⟨_, rfl⟩
  have e1 : wrap64 ((l.length : Int) + 1) = (n1 : Int) := by rw [w64 (by omega) (by omega)]; omega
  have b1 : l.length * 72 ≤ 140737488355328 := by omega
  have b2 : l.length ≤ 4611686018427387904 := by omega
  have b3 : (l.length + 1) * 72 ≤ 140737488355328 := by omega
  have b4 : l.length + 1 ≤ 4611686018427387904 := by omega
  have hh' : Hd (∀ s ∈ l, SmpW s) := hh
  have hn1' : Hd _ := hn1
  clear hn1
  have hr := inR_iff.1 hR
  obtain ⟨k, hk⟩ : ∃ k : Nat, sm = ((k + 1 : Nat) : Int) := ⟨(sm - 1).toNat, by ((try (clear e0)); (try (clear e1)); (try (clear e2)); (try (clear e3)); (try (clear e4)); (try (clear e5)); (try (clear e6)); (try (clear e7)); (try (clear e8)); (try (clear e9)); (try (clear e10)); (try (clear e11)); omega)⟩
  have e2 : wrap64 (sm - 1) = (k : Int) := by rw [w64 (by ((try (clear e0)); (try (clear e1)); (try (clear e2)); (try (clear e3)); (try (clear e4)); (try (clear e5)); (try (clear e6)); (try (clear e7)); (try (clear e8)); (try (clear e9)); (try (clear e10)); (try (clear e11)); omega)) (by ((try (clear e0)); (try (clear e1)); (try (clear e2)); (try (clear e3)); (try (clear e4)); (try (clear e5)); (try (clear e6)); (try (clear e7)); (try (clear e8)); (try (clear e9)); (try (clear e10)); (try (clear e11)); omega))]; ((try (clear e0)); (try (clear e1)); (try (clear e2)); (try (clear e3)); (try (clear e4)); (try (clear e5)); (try (clear e6)); (try (clear e7)); (try (clear e8)); (try (clear e9)); (try (clear e10)); (try (clear e11)); omega)
  have hkl : k < l.length := by ((try (clear e0)); (try (clear e1)); (try (clear e2)); (try (clear e3)); (try (clear e4)); (try (clear e5)); (try (clear e6)); (try (clear e7)); (try (clear e8)); (try (clear e9)); (try (clear e10)); (try (clear e11)); omega)
  have hi : (sm - 1).toNat = k := by ((try (clear e0)); (try (clear e1)); (try (clear e2)); (try (clear e3)); (try (clear e4)); (try (clear e5)); (try (clear e6)); (try (clear e7)); (try (clear e8)); (try (clear e9)); (try (clear e10)); (try (clear e11)); omega)
  have hx : l[k]? = some l[k] := List.getElem?_eq_getElem hkl
  have hxw := hh l[k] (List.getElem_mem hkl)
  have hsR : Hd (stepR l kd sm am ho = (if kd = 2 ∧ am = 0 then some (l.set k ⟨l[k].id, l[k].par, l[k].ctx, l[k].tak, l[k].lef, l[k].usd, l[k].giv, ho⟩)
    else if kd = 3 ∧ inR 1 l[k].lef am = true then some (l.set k ⟨l[k].id, l[k].par, l[k].ctx, l[k].tak, wrap64 (l[k].lef - am), l[k].usd, wrap64 (l[k].giv + am), l[k].hol⟩ ++ [⟨n1, l[k].id, l[k].ctx, am, am, 0, 0, ho⟩])
    else if kd = 4 ∧ inR 1 l[k].lef am = true ∧ ho.toList = [] then some (l.set k ⟨l[k].id, l[k].par, l[k].ctx, l[k].tak, wrap64 (l[k].lef - am), wrap64 (l[k].usd + am), l[k].giv, l[k].hol⟩)
    else none)) := by
    simp only [Hd, stepR, if_neg h1, hR, if_true, hi, hx, Option.getD_some, ← hn1'.out]
  have hk' : Hd _ := hk
  have h3 := h3' k hkl hk
  have h4 := h4' k hkl hk
  clear h3' h4'
  clear hk hi hx hr
  have hs := hsR.out
  rw [if_neg h2, if_neg h3, if_neg h4] at hs
  have hb := step_none hs
  rw [hb]
  clear hb hs hh hxw hsR
  by_cases k2 : kd = 2
  · have a0 : ¬ am = 0 := fun e => h2 ⟨k2, e⟩
    subst k2
    clear h2 h3 h4 h1
    refine ACallX.of (N := 135) tok Try.func69 rfl rfl rfl (by simp) ?_
    repeat' (first | with_reducible refine OutOK.done ?_ | refine thenQ_n ?_ | refine thenQ_r ?_ | refine thenQ_e ?_ | refine AW.seq ?_ | refine AW.reg tok (by simp [*]; rfl) ?_ | refine AW.ifB (by simp [*]; rfl) ?_ | refine IfG.t ?_ | refine IfG.f ?_ | (refine IfG.p (fun hg => ?_) (fun hg => ?_) <;> (try (have hg' := hg; simp at hg'))) | (refine IfG.n (fun hg => ?_) (fun hg => ?_) <;> (try (have hg' := hg; simp at hg'))) | (refine OutOK.gateP (fun hg => ?_) (fun hg => ?_) <;> (try (have hg' := hg; simp at hg'))) | (refine OutOK.gateN (fun hg => ?_) (fun hg => ?_) <;> (try (have hg' := hg; simp at hg'))) | (refine IfG.g (fun hg => ?_) (fun hg => ?_) <;> (try (have hg' := hg; simp at hg'))) | (refine OutOK.gate (fun hg => ?_) (fun hg => ?_) <;> (try (have hg' := hg; simp at hg'))) | (refine OutOK.callF [] (by simp [*]; rfl) (by simp [*]; rfl) (by simp [*]; rfl) hb95 (by apply c_spec_l1In <;> first | assumption | exact Hd.out (by assumption) | ((try (clear e0)); (try (clear e1)); (try (clear e2)); (try (clear e3)); (try (clear e4)); (try (clear e5)); (try (clear e6)); (try (clear e7)); (try (clear e8)); (try (clear e9)); (try (clear e10)); (try (clear e11)); omega)) ⟨by simp [*], by simp [*], by simp [*], by simp [*], by simp [*]⟩ (by simp [*]) (by simp [*]; rfl) ?_) | refine OutOK.run (by simp [*]; rfl) ?_ | refine AW.ret ?_ | refine AW.skip ?_ | refine AW.exit ?_ | refine fin_r ?_ | refine fin_n ?_ | refine AW.block ?_ | refine blockQ_n ?_ | refine blockQ_r ?_ | refine blockQ_e ?_ | refine blockQ_o rfl ?_)
    exact ⟨l, ⟨by simp, hh'.out, fun e => by simp at e⟩, by simp [Try.f69]⟩
  by_cases k3 : kd = 3
  · have a0 : inR 1 l[k].lef am = false := by simpa [k3] using h3
    subst k3
    clear h2 h3 h4 h1 k2
    refine ACallX.of (N := 135) tok Try.func69 rfl rfl rfl (by simp) ?_
    repeat' (first | with_reducible refine OutOK.done ?_ | refine thenQ_n ?_ | refine thenQ_r ?_ | refine thenQ_e ?_ | refine AW.seq ?_ | refine AW.reg tok (by simp [*]; rfl) ?_ | refine AW.ifB (by simp [*]; rfl) ?_ | refine IfG.t ?_ | refine IfG.f ?_ | (refine IfG.p (fun hg => ?_) (fun hg => ?_) <;> (try (have hg' := hg; simp at hg'))) | (refine IfG.n (fun hg => ?_) (fun hg => ?_) <;> (try (have hg' := hg; simp at hg'))) | (refine OutOK.gateP (fun hg => ?_) (fun hg => ?_) <;> (try (have hg' := hg; simp at hg'))) | (refine OutOK.gateN (fun hg => ?_) (fun hg => ?_) <;> (try (have hg' := hg; simp at hg'))) | (refine IfG.g (fun hg => ?_) (fun hg => ?_) <;> (try (have hg' := hg; simp at hg'))) | (refine OutOK.gate (fun hg => ?_) (fun hg => ?_) <;> (try (have hg' := hg; simp at hg'))) | (refine OutOK.callF [] (by simp [*]; rfl) (by simp [*]; rfl) (by simp [*]; rfl) hb95 (by apply c_spec_l1In <;> first | assumption | exact Hd.out (by assumption) | ((try (clear e0)); (try (clear e1)); (try (clear e2)); (try (clear e3)); (try (clear e4)); (try (clear e5)); (try (clear e6)); (try (clear e7)); (try (clear e8)); (try (clear e9)); (try (clear e10)); (try (clear e11)); omega)) ⟨by simp [*], by simp [*], by simp [*], by simp [*], by simp [*]⟩ (by simp [*]) (by simp [*]; rfl) ?_) | refine OutOK.run (by simp [*]; rfl) ?_ | refine AW.ret ?_ | refine AW.skip ?_ | refine AW.exit ?_ | refine fin_r ?_ | refine fin_n ?_ | refine AW.block ?_ | refine blockQ_n ?_ | refine blockQ_r ?_ | refine blockQ_e ?_ | refine blockQ_o rfl ?_)
    exact ⟨l, ⟨by simp, hh'.out, fun e => by simp at e⟩, by simp [Try.f69]⟩
  by_cases k4 : kd = 4
  · cases a0 : inR 1 l[k].lef am with
    | false =>
      subst k4
      clear h2 h3 h4 h1 k2 k3
      refine ACallX.of (N := 135) tok Try.func69 rfl rfl rfl (by simp) ?_
      repeat' (first | with_reducible refine OutOK.done ?_ | refine thenQ_n ?_ | refine thenQ_r ?_ | refine thenQ_e ?_ | refine AW.seq ?_ | refine AW.reg tok (by simp [*]; rfl) ?_ | refine AW.ifB (by simp [*]; rfl) ?_ | refine IfG.t ?_ | refine IfG.f ?_ | (refine IfG.p (fun hg => ?_) (fun hg => ?_) <;> (try (have hg' := hg; simp at hg'))) | (refine IfG.n (fun hg => ?_) (fun hg => ?_) <;> (try (have hg' := hg; simp at hg'))) | (refine OutOK.gateP (fun hg => ?_) (fun hg => ?_) <;> (try (have hg' := hg; simp at hg'))) | (refine OutOK.gateN (fun hg => ?_) (fun hg => ?_) <;> (try (have hg' := hg; simp at hg'))) | (refine IfG.g (fun hg => ?_) (fun hg => ?_) <;> (try (have hg' := hg; simp at hg'))) | (refine OutOK.gate (fun hg => ?_) (fun hg => ?_) <;> (try (have hg' := hg; simp at hg'))) | (refine OutOK.callF [] (by simp [*]; rfl) (by simp [*]; rfl) (by simp [*]; rfl) hb95 (by apply c_spec_l1In <;> first | assumption | exact Hd.out (by assumption) | ((try (clear e0)); (try (clear e1)); (try (clear e2)); (try (clear e3)); (try (clear e4)); (try (clear e5)); (try (clear e6)); (try (clear e7)); (try (clear e8)); (try (clear e9)); (try (clear e10)); (try (clear e11)); omega)) ⟨by simp [*], by simp [*], by simp [*], by simp [*], by simp [*]⟩ (by simp [*]) (by simp [*]; rfl) ?_) | refine OutOK.run (by simp [*]; rfl) ?_ | refine AW.ret ?_ | refine AW.skip ?_ | refine AW.exit ?_ | refine fin_r ?_ | refine fin_n ?_ | refine AW.block ?_ | refine blockQ_n ?_ | refine blockQ_r ?_ | refine blockQ_e ?_ | refine blockQ_o rfl ?_)
      exact ⟨l, ⟨by simp, hh'.out, fun e => by simp at e⟩, by simp [Try.f69]⟩
    | true =>
      have a1 : ¬ ho.toList = [] := fun e => h4 ⟨k4, a0, e⟩
      subst k4
      clear h2 h3 h4 h1 k2 k3
      refine ACallX.of (N := 135) tok Try.func69 rfl rfl rfl (by simp) ?_
      repeat' (first | with_reducible refine OutOK.done ?_ | refine thenQ_n ?_ | refine thenQ_r ?_ | refine thenQ_e ?_ | refine AW.seq ?_ | refine AW.reg tok (by simp [*]; rfl) ?_ | refine AW.ifB (by simp [*]; rfl) ?_ | refine IfG.t ?_ | refine IfG.f ?_ | (refine IfG.p (fun hg => ?_) (fun hg => ?_) <;> (try (have hg' := hg; simp at hg'))) | (refine IfG.n (fun hg => ?_) (fun hg => ?_) <;> (try (have hg' := hg; simp at hg'))) | (refine OutOK.gateP (fun hg => ?_) (fun hg => ?_) <;> (try (have hg' := hg; simp at hg'))) | (refine OutOK.gateN (fun hg => ?_) (fun hg => ?_) <;> (try (have hg' := hg; simp at hg'))) | (refine IfG.g (fun hg => ?_) (fun hg => ?_) <;> (try (have hg' := hg; simp at hg'))) | (refine OutOK.gate (fun hg => ?_) (fun hg => ?_) <;> (try (have hg' := hg; simp at hg'))) | (refine OutOK.callF [] (by simp [*]; rfl) (by simp [*]; rfl) (by simp [*]; rfl) hb95 (by apply c_spec_l1In <;> first | assumption | exact Hd.out (by assumption) | ((try (clear e0)); (try (clear e1)); (try (clear e2)); (try (clear e3)); (try (clear e4)); (try (clear e5)); (try (clear e6)); (try (clear e7)); (try (clear e8)); (try (clear e9)); (try (clear e10)); (try (clear e11)); omega)) ⟨by simp [*], by simp [*], by simp [*], by simp [*], by simp [*]⟩ (by simp [*]) (by simp [*]; rfl) ?_) | refine OutOK.run (by simp [*]; rfl) ?_ | refine AW.ret ?_ | refine AW.skip ?_ | refine AW.exit ?_ | refine fin_r ?_ | refine fin_n ?_ | refine AW.block ?_ | refine blockQ_n ?_ | refine blockQ_r ?_ | refine blockQ_e ?_ | refine blockQ_o rfl ?_)
      exact ⟨l, ⟨by simp, hh'.out, fun e => by simp at e⟩, by simp [Try.f69]⟩
  · clear h2 h3 h4
    refine ACallX.of (N := 135) tok Try.func69 rfl rfl rfl (by simp) ?_
    repeat' (first | with_reducible refine OutOK.done ?_ | refine thenQ_n ?_ | refine thenQ_r ?_ | refine thenQ_e ?_ | refine AW.seq ?_ | refine AW.reg tok (by simp [*]; rfl) ?_ | refine AW.ifB (by simp [*]; rfl) ?_ | refine IfG.t ?_ | refine IfG.f ?_ | (refine IfG.p (fun hg => ?_) (fun hg => ?_) <;> (try (have hg' := hg; simp at hg'))) | (refine IfG.n (fun hg => ?_) (fun hg => ?_) <;> (try (have hg' := hg; simp at hg'))) | (refine OutOK.gateP (fun hg => ?_) (fun hg => ?_) <;> (try (have hg' := hg; simp at hg'))) | (refine OutOK.gateN (fun hg => ?_) (fun hg => ?_) <;> (try (have hg' := hg; simp at hg'))) | (refine IfG.g (fun hg => ?_) (fun hg => ?_) <;> (try (have hg' := hg; simp at hg'))) | (refine OutOK.gate (fun hg => ?_) (fun hg => ?_) <;> (try (have hg' := hg; simp at hg'))) | (refine OutOK.callF [] (by simp [*]; rfl) (by simp [*]; rfl) (by simp [*]; rfl) hb95 (by apply c_spec_l1In <;> first | assumption | exact Hd.out (by assumption) | ((try (clear e0)); (try (clear e1)); (try (clear e2)); (try (clear e3)); (try (clear e4)); (try (clear e5)); (try (clear e6)); (try (clear e7)); (try (clear e8)); (try (clear e9)); (try (clear e10)); (try (clear e11)); omega)) ⟨by simp [*], by simp [*], by simp [*], by simp [*], by simp [*]⟩ (by simp [*]) (by simp [*]; rfl) ?_) | refine OutOK.run (by simp [*]; rfl) ?_ | refine AW.ret ?_ | refine AW.skip ?_ | refine AW.exit ?_ | refine fin_r ?_ | refine fin_n ?_ | refine AW.block ?_ | refine blockQ_n ?_ | refine blockQ_r ?_ | refine blockQ_e ?_ | refine blockQ_o rfl ?_)
    exact ⟨l, ⟨by simp, hh'.out, fun e => by simp at e⟩, by simp [Try.f69]⟩
theorem x_spec_l20Step (l : List Smp) (kd sm am : Int) (ho : ByteArray) (h : l.length ≤ 1000) (hh : ∀ s ∈ l, SmpW s) (hho : ho.size ≤ 9223372036854775807) : ACallX Try.prog 69 [.v (.sl true 8 (smps l)), stpD kd sm am ho] (fun x : List Smp => x.length ≤ l.length + 1 ∧ (∀ s ∈ x, SmpW s) ∧ (stepB l kd sm am ho = true → x = stepL l kd sm am ho)) (fun _ => [.x, .x]) (fun x => [.v (.sl false 8 (smps x)), boo (stepB l kd sm am ho)]) := by
  by_cases h1 : kd = 1
  · exact s_l20_1 l kd sm am ho h hh hho h1
  cases hR : inR 1 l.length sm with
  | false => exact s_l20_R l kd sm am ho h hh hho h1 hR
  | true =>
    by_cases h2 : kd = 2 ∧ am = 0
    · exact s_l20_2 l kd sm am ho h hh hho h1 hR h2
    have hr := inR_iff.1 hR
    obtain ⟨k, hk⟩ : ∃ k : Nat, sm = ((k + 1 : Nat) : Int) := ⟨(sm - 1).toNat, by omega⟩
    have hkl : k < l.length := by omega
    have hu : ∀ k', sm = ((k' + 1 : Nat) : Int) → k' = k := fun k' e => by omega
    by_cases h3 : kd = 3 ∧ inR 1 l[k].lef am = true
    · exact s_l20_3 l kd sm am ho h hh hho h1 hR h2 (fun k' _ e => by obtain rfl := hu k' e; exact h3)
    by_cases h4 : kd = 4 ∧ inR 1 l[k].lef am = true ∧ ho.toList = []
    · exact s_l20_4 l kd sm am ho h hh hho h1 hR h2 (fun k' _ e => by obtain rfl := hu k' e; exact h3) (fun k' _ e => by obtain rfl := hu k' e; exact h4)
    · exact s_l20_n l kd sm am ho h hh hho h1 hR h2 (fun k' _ e => by obtain rfl := hu k' e; exact h3) (fun k' _ e => by obtain rfl := hu k' e; exact h4)
end Go.Proofs.Ytodombkmnnggeaa.EngS


set_option linter.unusedSimpArgs false
set_option linter.unusedVariables false
set_option maxHeartbeats 4000000
set_option maxRecDepth 100000
namespace Go.Proofs.Ytodombkmnnggeaa.EngS
open Go Go.Proofs Go.Eng Go.RowKit
structure SmpF (x : Smp) (k : Nat) : Prop where
  id : x.id = ((k + 1 : Nat) : Int)
  p0 : 0 ≤ x.par
  p1 : x.par ≤ k
  t1 : 1 ≤ x.tak
  t2 : x.tak ≤ 500
  l1 : 0 ≤ x.lef
  l2 : x.lef ≤ x.tak
  u1 : 0 ≤ x.usd
  u2 : x.usd ≤ x.tak
  g1 : 0 ≤ x.giv
  g2 : x.giv ≤ x.tak
  s : x.lef + x.usd + x.giv = x.tak
theorem good_x {l : List Smp} (hg : goodS l = true) (hw : ∀ s ∈ l, SmpW s) {k : Nat} (hk : k < l.length) : l.length ≤ 16 ∧ SmpF l[k] k ∧ l[k].giv = givI l l[k].id l.length := by
  obtain ⟨h16, h⟩ := goodS_at hg
  have h := h k hk
  have hx := hw l[k] (List.getElem_mem hk)
  generalize l[k] = x at *
  simp only [smOK, smA, smB, smD, Bool.and_eq_true, decide_eq_true_eq, inR_iff] at h
  obtain ⟨⟨⟨⟨⟨⟨⟨⟨⟨⟨a1, a2⟩, a3⟩, a4⟩, a5⟩, a6⟩, a7⟩, a8⟩, ⟨⟨b1, b2⟩, b3⟩⟩, c1⟩, d1⟩ := h
  obtain ⟨w1, w2, w3⟩ := hx
  have e1 : wrap64 ((k : Int) + 1) = (k : Int) + 1 := w64 (by omega) (by omega)
  have e2 : wrap64 (x.lef + x.usd) = x.lef + x.usd := w64 (by omega) (by omega)
  rw [e1] at a1
  rw [e2] at b3
  have hs : x.lef + x.usd + x.giv = x.tak := by
    clear d1 c1 e1 e2 a1
    unfold wrap64 at b3
    omega
  refine ⟨h16, ⟨by omega, a2.1, a2.2, a4.1, a4.2, a5, b1, a6, b2, a7, by omega, hs⟩, d1⟩
attribute [local irreducible] Go.RowKit.wrap64
theorem c_slices_Clone_impl_Sample_impl_Sample (l : List Smp) (h : l.length ≤ 1000) : ACall Try.prog 73 [.v (.sl true 8 (smps l))] [.x] [.v (.sl false 8 (smps l))] := by
  have h1 : (l.length : Int) * 72 ≤ 140737488355328 := by omega
  have h2 : (l.length : Int) ≤ 4611686018427387904 := by omega
  have h3 : l.length * 72 ≤ 140737488355328 := by omega
  have h4 : l.length ≤ 4611686018427387904 := by omega
  refine ACall.of (N := 8) tok Try.func73 rfl rfl rfl (by simp) ?_
  repeat' (first | with_reducible refine OutOK.done ?_ | refine thenQ_n ?_ | refine thenQ_r ?_ | refine thenQ_e ?_ | refine AW.seq ?_ | (refine AW.isNil tok rfl rfl rfl (by simp [*]; rfl) (by simp [*]; done) (by decide) ?_; intro hb hc; cases hb <;> simp at hc) | refine AW.reg tok (by simp [*]; rfl) ?_ | refine AW.ifB (by simp [*]; rfl) ?_ | refine IfG.t ?_ | refine IfG.f ?_ | (refine IfG.p (fun hg => ?_) (fun hg => ?_) <;> (try (have hg' := hg; simp at hg'))) | (refine IfG.n (fun hg => ?_) (fun hg => ?_) <;> (try (have hg' := hg; simp at hg'))) | (refine OutOK.gateP (fun hg => ?_) (fun hg => ?_) <;> (try (have hg' := hg; simp at hg'))) | (refine OutOK.gateN (fun hg => ?_) (fun hg => ?_) <;> (try (have hg' := hg; simp at hg'))) | (refine IfG.g (fun hg => ?_) (fun hg => ?_) <;> (try (have hg' := hg; simp at hg'))) | (refine OutOK.gate (fun hg => ?_) (fun hg => ?_) <;> (try (have hg' := hg; simp at hg'))) | refine OutOK.run (by simp [*]; rfl) ?_ | refine AW.ret ?_ | refine AW.skip ?_ | refine AW.exit ?_ | refine fin_r ?_ | refine fin_n ?_ | refine AW.block ?_ | refine blockQ_n ?_ | refine blockQ_r ?_ | refine blockQ_e ?_ | refine blockQ_o rfl ?_)
  all_goals (try simp [*, Try.f73])
theorem goodS_tak {l : List Smp} {i : Nat} (hl : i < l.length) (h : inR 1 500 l[i].tak = false) : goodS l = false := goodS_no hl (by simp [smOK, smA, h])
theorem goodS_lef {l : List Smp} {i : Nat} (hl : i < l.length) (h : l[i].lef < 0) : goodS l = false := goodS_no hl (by simp [smOK, smA, show ¬ 0 ≤ l[i].lef by omega])
theorem step_at {l : List Smp} {kd sm am : Int} {ho : ByteArray} {k : Nat} (h1 : ¬ kd = 1) (hk : sm = ((k + 1 : Nat) : Int)) (hkl : k < l.length) :
    stepR l kd sm am ho = (if kd = 2 ∧ am = 0 then some (l.set k ⟨l[k].id, l[k].par, l[k].ctx, l[k].tak, l[k].lef, l[k].usd, l[k].giv, ho⟩)
      else if kd = 3 ∧ inR 1 l[k].lef am = true then some (l.set k ⟨l[k].id, l[k].par, l[k].ctx, l[k].tak, wrap64 (l[k].lef - am), l[k].usd, wrap64 (l[k].giv + am), l[k].hol⟩ ++ [⟨(l.length + 1 : Nat), l[k].id, l[k].ctx, am, am, 0, 0, ho⟩])
      else if kd = 4 ∧ inR 1 l[k].lef am = true ∧ ho.toList = [] then some (l.set k ⟨l[k].id, l[k].par, l[k].ctx, l[k].tak, wrap64 (l[k].lef - am), wrap64 (l[k].usd + am), l[k].giv, l[k].hol⟩)
      else none) := by
  have hR : inR 1 l.length sm = true := inR_iff.2 ⟨by omega, by omega⟩
  have hi : (sm - 1).toNat = k := by omega
  have hx : l[k]? = some l[k] := List.getElem?_eq_getElem hkl
  simp only [stepR, if_neg h1, hR, if_true, hi, hx, Option.getD_some]
theorem lef_under {x : Smp} {k : Nat} {am : Int} (hf : SmpF x k) (ha : inR 0 500 am = true) (h0 : ¬ am = 0) (hn : inR 1 x.lef am = false) : wrap64 (x.lef - am) < 0 := by
  have h1 := hf.l1; have h2 := hf.l2; have h3 := hf.t2
  rw [inR_iff] at ha
  rw [inR_not] at hn
  rw [w64 (by omega) (by omega)]; omega
theorem step_3 {l : List Smp} {sm am : Int} {ho : ByteArray} {k : Nat} (hf : ∀ (hk : k < l.length), SmpF l[k] k) (hk : sm = ((k + 1 : Nat) : Int)) (hkl : k < l.length) (ha : inR 0 500 am = true) (h0 : ¬ am = 0) :
    stepB l 3 sm am ho = goodS (l.set k ⟨l[k].id, l[k].par, l[k].ctx, l[k].tak, wrap64 (l[k].lef - am), l[k].usd, wrap64 (l[k].giv + am), l[k].hol⟩ ++ [⟨(l.length + 1 : Nat), l[k].id, l[k].ctx, am, am, 0, 0, ho⟩]) ∧ (goodS (l.set k ⟨l[k].id, l[k].par, l[k].ctx, l[k].tak, wrap64 (l[k].lef - am), l[k].usd, wrap64 (l[k].giv + am), l[k].hol⟩ ++ [⟨(l.length + 1 : Nat), l[k].id, l[k].ctx, am, am, 0, 0, ho⟩]) = true →
      stepL l 3 sm am ho = l.set k ⟨l[k].id, l[k].par, l[k].ctx, l[k].tak, wrap64 (l[k].lef - am), l[k].usd, wrap64 (l[k].giv + am), l[k].hol⟩ ++ [⟨(l.length + 1 : Nat), l[k].id, l[k].ctx, am, am, 0, 0, ho⟩]) := by
  have hs := step_at (am := am) (ho := ho) (show ¬ (3 : Int) = 1 by decide) hk hkl
  rw [if_neg (by simp)] at hs
  cases hi : inR 1 l[k].lef am with
  | true =>
    rw [if_pos ⟨rfl, hi⟩] at hs
    exact step_some hs
  | false =>
    rw [if_neg (by simp [hi]), if_neg (by simp)] at hs
    have hb := step_none hs
    have hg : goodS (l.set k ⟨l[k].id, l[k].par, l[k].ctx, l[k].tak, wrap64 (l[k].lef - am), l[k].usd, wrap64 (l[k].giv + am), l[k].hol⟩ ++ [⟨(l.length + 1 : Nat), l[k].id, l[k].ctx, am, am, 0, 0, ho⟩]) = false :=
      goodS_lef (i := k) (by simp; omega) (by rw [List.getElem_append_left (by simpa using hkl), List.getElem_set_self]; exact lef_under (hf hkl) ha h0 hi)
    rw [hb, hg]
    exact ⟨rfl, fun e => by cases e⟩
theorem step_4 {l : List Smp} {sm am : Int} {ho : ByteArray} {k : Nat} (hf : ∀ (hk : k < l.length), SmpF l[k] k) (hk : sm = ((k + 1 : Nat) : Int)) (hkl : k < l.length) (ha : inR 0 500 am = true) (h0 : ¬ am = 0) (h5 : ho.toList = []) :
    stepB l 4 sm am ho = goodS (l.set k ⟨l[k].id, l[k].par, l[k].ctx, l[k].tak, wrap64 (l[k].lef - am), wrap64 (l[k].usd + am), l[k].giv, l[k].hol⟩) ∧ (goodS (l.set k ⟨l[k].id, l[k].par, l[k].ctx, l[k].tak, wrap64 (l[k].lef - am), wrap64 (l[k].usd + am), l[k].giv, l[k].hol⟩) = true →
      stepL l 4 sm am ho = l.set k ⟨l[k].id, l[k].par, l[k].ctx, l[k].tak, wrap64 (l[k].lef - am), wrap64 (l[k].usd + am), l[k].giv, l[k].hol⟩) := by
  have hs := step_at (am := am) (ho := ho) (show ¬ (4 : Int) = 1 by decide) hk hkl
  rw [if_neg (by simp), if_neg (by simp)] at hs
  cases hi : inR 1 l[k].lef am with
  | true =>
    rw [if_pos ⟨rfl, hi, h5⟩] at hs
    exact step_some hs
  | false =>
    rw [if_neg (by simp [hi])] at hs
    have hb := step_none hs
    have hg : goodS (l.set k ⟨l[k].id, l[k].par, l[k].ctx, l[k].tak, wrap64 (l[k].lef - am), wrap64 (l[k].usd + am), l[k].giv, l[k].hol⟩) = false :=
      goodS_lef (i := k) (by simpa using hkl) (by rw [List.getElem_set_self]; exact lef_under (hf hkl) ha h0 hi)
    rw [hb, hg]
    exact ⟨rfl, fun e => by cases e⟩
theorem s_app_1n (l : List Smp) (kd sm am : Int) (ho : ByteArray) (hgl : goodS l = true) (hh : ∀ s ∈ l, SmpW s) (hho : ho.size ≤ 9223372036854775807) (h1 : kd = 1) (hA : inR 1 500 am = false) : ACall Try.prog 74 [.v (.sl true 8 (smps l)), stpD kd sm am ho] [.x, .x] [.v (.sl false 8 (smps (stepL l kd sm am ho))), boo (stepB l kd sm am ho)] := by
  obtain ⟨n1, hn1⟩ : ∃ n1, n1 = l.length + 1 := ⟨_, rfl⟩
  have h16 := (goodS_at hgl).1
  have e1 : wrap64 ((l.length : Int) + 1) = (n1 : Int) := by rw [w64 (by omega) (by omega)]; omega
  have b3 : (l.length + 1) * 72 ≤ 140737488355328 := by omega
  have b4 : l.length + 1 ≤ 4611686018427387904 := by omega
  have cc := c_slices_Clone_impl_Sample_impl_Sample l (by omega)
  have i0 : inR 0 500 0 = true := inR_iff.2 ⟨by omega, by omega⟩
  have hn1' : Hd _ := hn1
  clear hn1
  have hb : stepB l kd sm am ho = false := by
    rw [(step_some (m := l ++ [⟨n1, 0, sm, am, am, 0, 0, ho⟩]) (by simp [stepR, h1, hn1'.out])).1]
    exact goodS_tak (i := l.length) (by simp) (by simpa using hA)
  rw [show stepL l kd sm am ho = [] by simp [stepL, hb], hb]
  clear hb hgl hh
  subst h1
  by_cases ha : am = 0
  · subst ha
    refine ACall.of (N := 140) tok Try.func74 rfl rfl rfl (by simp) ?_
    repeat' (first | with_reducible refine OutOK.done ?_ | refine thenQ_n ?_ | refine thenQ_r ?_ | refine thenQ_e ?_ | refine AW.seq ?_ | refine AW.dreg tok mixed [5]  [(0, false), (1, false), (2, false), (4, false), (3, false), (5, true), (6, false), (7, false), (8, false), (9, false)] (by decide +kernel) rfl (by simp [*]; rfl) ?_ | refine AW.dreg tok mixed [5]  [(0, false), (1, false), (2, false), (4, false), (3, false), (5, true), (6, false), (7, false), (8, false), (9, false)] (by decide +kernel) rfl (by simp [*]; rfl) ?_ | refine AW.dreg tok mixed [9, 11, 13, 15]  [(0, false), (1, false), (2, false), (3, false), (4, false), (6, false), (7, false), (8, false), (10, false), (12, false), (14, false), (5, false), (9, true), (11, true), (13, true), (15, true), (16, false), (17, false), (18, false), (19, false)] (by decide +kernel) rfl (by simp [*]; rfl) ?_ | refine AW.dreg tok mixed [8]  [(0, false), (1, false), (7, false), (2, false), (3, false), (4, false), (5, false), (6, false), (8, true), (9, false), (10, false), (11, false), (12, false)] (by decide +kernel) rfl (by simp [*]; rfl) ?_ | refine AW.dreg tok mixed [8]  [(0, false), (1, false), (7, false), (2, false), (3, false), (4, false), (5, false), (6, false), (8, true), (9, false), (10, false), (11, false), (12, false)] (by decide +kernel) rfl (by simp [*]; rfl) ?_ | refine AW.reg tok (by simp [*]; rfl) ?_ | refine AW.ifB (by simp [*]; rfl) ?_ | refine IfG.t ?_ | refine IfG.f ?_ | (refine IfG.p (fun hg => ?_) (fun hg => ?_) <;> (try (have hg' := hg; simp at hg'))) | (refine IfG.n (fun hg => ?_) (fun hg => ?_) <;> (try (have hg' := hg; simp at hg'))) | (refine OutOK.gateP (fun hg => ?_) (fun hg => ?_) <;> (try (have hg' := hg; simp at hg'))) | (refine OutOK.gateN (fun hg => ?_) (fun hg => ?_) <;> (try (have hg' := hg; simp at hg'))) | (refine IfG.g (fun hg => ?_) (fun hg => ?_) <;> (try (have hg' := hg; simp at hg'))) | (refine OutOK.gate (fun hg => ?_) (fun hg => ?_) <;> (try (have hg' := hg; simp at hg'))) | (refine OutOK.callF [] (by simp [*]; rfl) (by simp [*]; rfl) (by simp [*]; rfl) hb76 (by apply c_impl_within <;> first | assumption | exact Hd.out (by assumption) | ((try (clear e0)); (try (clear e1)); (try (clear e2)); (try (clear e3)); (try (clear e4)); (try (clear e5)); (try (clear e6)); (try (clear e7)); (try (clear e8)); (try (clear e9)); (try (clear e10)); (try (clear e11)); omega)) ⟨by simp [*], by simp [*], by simp [*], by simp [*], by simp [*]⟩ (by simp [*]) (by simp [*]; rfl) ?_) | (refine OutOK.callF [] (by simp [*]; rfl) (by simp [*]; rfl) (by simp [*]; rfl) hb73 (by apply cc <;> first | assumption | exact Hd.out (by assumption) | ((try (clear e0)); (try (clear e1)); (try (clear e2)); (try (clear e3)); (try (clear e4)); (try (clear e5)); (try (clear e6)); (try (clear e7)); (try (clear e8)); (try (clear e9)); (try (clear e10)); (try (clear e11)); omega)) ⟨by simp [*], by simp [*], by simp [*], by simp [*], by simp [*]⟩ (by simp [*]) (by simp [*]; rfl) ?_) | refine OutOK.run (by simp [*]; rfl) ?_ | refine AW.ret ?_ | refine AW.skip ?_ | refine AW.exit ?_ | refine fin_r ?_ | refine fin_n ?_ | refine AW.block ?_ | refine blockQ_n ?_ | refine blockQ_r ?_ | refine blockQ_e ?_ | refine blockQ_o rfl ?_)
    simp [Try.f74, smps]
  · have hA2 : inR 0 500 am = false := by
      rw [inR_not] at hA ⊢; omega
    clear hA
    refine ACall.of (N := 140) tok Try.func74 rfl rfl rfl (by simp) ?_
    repeat' (first | with_reducible refine OutOK.done ?_ | refine thenQ_n ?_ | refine thenQ_r ?_ | refine thenQ_e ?_ | refine AW.seq ?_ | refine AW.dreg tok mixed [5]  [(0, false), (1, false), (2, false), (4, false), (3, false), (5, true), (6, false), (7, false), (8, false), (9, false)] (by decide +kernel) rfl (by simp [*]; rfl) ?_ | refine AW.dreg tok mixed [5]  [(0, false), (1, false), (2, false), (4, false), (3, false), (5, true), (6, false), (7, false), (8, false), (9, false)] (by decide +kernel) rfl (by simp [*]; rfl) ?_ | refine AW.dreg tok mixed [9, 11, 13, 15]  [(0, false), (1, false), (2, false), (3, false), (4, false), (6, false), (7, false), (8, false), (10, false), (12, false), (14, false), (5, false), (9, true), (11, true), (13, true), (15, true), (16, false), (17, false), (18, false), (19, false)] (by decide +kernel) rfl (by simp [*]; rfl) ?_ | refine AW.dreg tok mixed [8]  [(0, false), (1, false), (7, false), (2, false), (3, false), (4, false), (5, false), (6, false), (8, true), (9, false), (10, false), (11, false), (12, false)] (by decide +kernel) rfl (by simp [*]; rfl) ?_ | refine AW.dreg tok mixed [8]  [(0, false), (1, false), (7, false), (2, false), (3, false), (4, false), (5, false), (6, false), (8, true), (9, false), (10, false), (11, false), (12, false)] (by decide +kernel) rfl (by simp [*]; rfl) ?_ | refine AW.reg tok (by simp [*]; rfl) ?_ | refine AW.ifB (by simp [*]; rfl) ?_ | refine IfG.t ?_ | refine IfG.f ?_ | (refine IfG.p (fun hg => ?_) (fun hg => ?_) <;> (try (have hg' := hg; simp at hg'))) | (refine IfG.n (fun hg => ?_) (fun hg => ?_) <;> (try (have hg' := hg; simp at hg'))) | (refine OutOK.gateP (fun hg => ?_) (fun hg => ?_) <;> (try (have hg' := hg; simp at hg'))) | (refine OutOK.gateN (fun hg => ?_) (fun hg => ?_) <;> (try (have hg' := hg; simp at hg'))) | (refine IfG.g (fun hg => ?_) (fun hg => ?_) <;> (try (have hg' := hg; simp at hg'))) | (refine OutOK.gate (fun hg => ?_) (fun hg => ?_) <;> (try (have hg' := hg; simp at hg'))) | (refine OutOK.callF [] (by simp [*]; rfl) (by simp [*]; rfl) (by simp [*]; rfl) hb76 (by apply c_impl_within <;> first | assumption | exact Hd.out (by assumption) | ((try (clear e0)); (try (clear e1)); (try (clear e2)); (try (clear e3)); (try (clear e4)); (try (clear e5)); (try (clear e6)); (try (clear e7)); (try (clear e8)); (try (clear e9)); (try (clear e10)); (try (clear e11)); omega)) ⟨by simp [*], by simp [*], by simp [*], by simp [*], by simp [*]⟩ (by simp [*]) (by simp [*]; rfl) ?_) | (refine OutOK.callF [] (by simp [*]; rfl) (by simp [*]; rfl) (by simp [*]; rfl) hb73 (by apply cc <;> first | assumption | exact Hd.out (by assumption) | ((try (clear e0)); (try (clear e1)); (try (clear e2)); (try (clear e3)); (try (clear e4)); (try (clear e5)); (try (clear e6)); (try (clear e7)); (try (clear e8)); (try (clear e9)); (try (clear e10)); (try (clear e11)); omega)) ⟨by simp [*], by simp [*], by simp [*], by simp [*], by simp [*]⟩ (by simp [*]) (by simp [*]; rfl) ?_) | refine OutOK.run (by simp [*]; rfl) ?_ | refine AW.ret ?_ | refine AW.skip ?_ | refine AW.exit ?_ | refine fin_r ?_ | refine fin_n ?_ | refine AW.block ?_ | refine blockQ_n ?_ | refine blockQ_r ?_ | refine blockQ_e ?_ | refine blockQ_o rfl ?_)
    simp [Try.f74, smps]
theorem s_app_1 (l : List Smp) (kd sm am : Int) (ho : ByteArray) (hgl : goodS l = true) (hh : ∀ s ∈ l, SmpW s) (hho : ho.size ≤ 9223372036854775807) (h1 : kd = 1) (hA : inR 1 500 am = true) : ACall Try.prog 74 [.v (.sl true 8 (smps l)), stpD kd sm am ho] [.x, .x] [.v (.sl false 8 (smps (stepL l kd sm am ho))), boo (stepB l kd sm am ho)] := by
  obtain ⟨n1, hn1⟩ : ∃ n1, n1 = l.length + 1 := ⟨_, rfl⟩
  have h16 := (goodS_at hgl).1
  have e1 : wrap64 ((l.length : Int) + 1) = (n1 : Int) := by rw [w64 (by omega) (by omega)]; omega
  have b3 : (l.length + 1) * 72 ≤ 140737488355328 := by omega
  have b4 : l.length + 1 ≤ 4611686018427387904 := by omega
  have cc := c_slices_Clone_impl_Sample_impl_Sample l (by omega)
  have i0 : inR 0 500 0 = true := inR_iff.2 ⟨by omega, by omega⟩
  have hn1' : Hd _ := hn1
  clear hn1
  have hA2 : inR 0 500 am = true := by
    rw [inR_iff] at hA ⊢; omega
  have ha : ¬ am = 0 := by rw [inR_iff] at hA; omega
  clear hA
  obtain ⟨hb, hl⟩ := step_some (m := l ++ [(⟨n1, 0, sm, am, am, 0, 0, ho⟩ : Smp)]) (show stepR l kd sm am ho = _ by simp [stepR, h1, hn1'.out])
  have hmw : ∀ s ∈ l ++ [(⟨n1, 0, sm, am, am, 0, 0, ho⟩ : Smp)], SmpW s := W_app hh ⟨hho, by simp, by simp⟩
  have cv := c_impl_IsValidSamples _ (by simp; omega) hmw
  have hm : stepL l kd sm am ho = if goodS (l ++ [(⟨n1, 0, sm, am, am, 0, 0, ho⟩ : Smp)]) = true then l ++ [(⟨n1, 0, sm, am, am, 0, 0, ho⟩ : Smp)] else [] := by
    split
    · rename_i e; exact hl e
    · rename_i e; have : stepB l kd sm am ho = false := by rw [hb]; simpa using e
      simp [stepL, this]
  rw [hm, hb]
  subst h1
  cases hgb : goodS (l ++ [(⟨n1, 0, sm, am, am, 0, 0, ho⟩ : Smp)]) <;> rw [hgb] at cv
  · clear hm hb hl hgb hmw hgl hh 
    refine ACall.of (N := 140) tok Try.func74 rfl rfl rfl (by simp) ?_
    repeat' (first | with_reducible refine OutOK.done ?_ | refine thenQ_n ?_ | refine thenQ_r ?_ | refine thenQ_e ?_ | refine AW.seq ?_ | refine AW.dreg tok mixed [5]  [(0, false), (1, false), (2, false), (4, false), (3, false), (5, true), (6, false), (7, false), (8, false), (9, false)] (by decide +kernel) rfl (by simp (maxSteps := 3000000) [*]; rfl) ?_ | refine AW.dreg tok mixed [5]  [(0, false), (1, false), (2, false), (4, false), (3, false), (5, true), (6, false), (7, false), (8, false), (9, false)] (by decide +kernel) rfl (by simp (maxSteps := 3000000) [*]; rfl) ?_ | refine AW.dreg tok mixed [9, 11, 13, 15]  [(0, false), (1, false), (2, false), (3, false), (4, false), (6, false), (7, false), (8, false), (10, false), (12, false), (14, false), (5, false), (9, true), (11, true), (13, true), (15, true), (16, false), (17, false), (18, false), (19, false)] (by decide +kernel) rfl (by simp (maxSteps := 3000000) [*]; rfl) ?_ | refine AW.dreg tok mixed [8]  [(0, false), (1, false), (7, false), (2, false), (3, false), (4, false), (5, false), (6, false), (8, true), (9, false), (10, false), (11, false), (12, false)] (by decide +kernel) rfl (by simp (maxSteps := 3000000) [*]; rfl) ?_ | refine AW.dreg tok mixed [8]  [(0, false), (1, false), (7, false), (2, false), (3, false), (4, false), (5, false), (6, false), (8, true), (9, false), (10, false), (11, false), (12, false)] (by decide +kernel) rfl (by simp (maxSteps := 3000000) [*]; rfl) ?_ | refine AW.reg tok (by simp (maxSteps := 3000000) [*]; rfl) ?_ | refine AW.ifB (by simp (maxSteps := 3000000) [*]; rfl) ?_ | refine IfG.t ?_ | refine IfG.f ?_ | (refine IfG.p (fun hg => ?_) (fun hg => ?_) <;> (try (have hg' := hg; simp at hg'))) | (refine IfG.n (fun hg => ?_) (fun hg => ?_) <;> (try (have hg' := hg; simp at hg'))) | (refine OutOK.gateP (fun hg => ?_) (fun hg => ?_) <;> (try (have hg' := hg; simp at hg'))) | (refine OutOK.gateN (fun hg => ?_) (fun hg => ?_) <;> (try (have hg' := hg; simp at hg'))) | (refine IfG.g (fun hg => ?_) (fun hg => ?_) <;> (try (have hg' := hg; simp at hg'))) | (refine OutOK.gate (fun hg => ?_) (fun hg => ?_) <;> (try (have hg' := hg; simp at hg'))) | (refine OutOK.callF [] (by simp (maxSteps := 3000000) [*]; rfl) (by simp (maxSteps := 3000000) [*]; rfl) (by simp (maxSteps := 3000000) [*]; rfl) hb76 (by apply c_impl_within <;> first | assumption | exact Hd.out (by assumption) | ((try (clear e0)); (try (clear e1)); (try (clear e2)); (try (clear e3)); (try (clear e4)); (try (clear e5)); (try (clear e6)); (try (clear e7)); (try (clear e8)); (try (clear e9)); (try (clear e10)); (try (clear e11)); omega)) ⟨by simp (maxSteps := 3000000) [*], by simp (maxSteps := 3000000) [*], by simp (maxSteps := 3000000) [*], by simp (maxSteps := 3000000) [*], by simp (maxSteps := 3000000) [*]⟩ (by simp (maxSteps := 3000000) [*]) (by simp (maxSteps := 3000000) [*]; rfl) ?_) | (refine OutOK.callF [] (by simp (maxSteps := 3000000) [*]; rfl) (by simp (maxSteps := 3000000) [*]; rfl) (by simp (maxSteps := 3000000) [*]; rfl) hb73 (by apply cc <;> first | assumption | exact Hd.out (by assumption) | ((try (clear e0)); (try (clear e1)); (try (clear e2)); (try (clear e3)); (try (clear e4)); (try (clear e5)); (try (clear e6)); (try (clear e7)); (try (clear e8)); (try (clear e9)); (try (clear e10)); (try (clear e11)); omega)) ⟨by simp (maxSteps := 3000000) [*], by simp (maxSteps := 3000000) [*], by simp (maxSteps := 3000000) [*], by simp (maxSteps := 3000000) [*], by simp (maxSteps := 3000000) [*]⟩ (by simp (maxSteps := 3000000) [*]) (by simp (maxSteps := 3000000) [*]; rfl) ?_) | (refine OutOK.callF [] (by simp (maxSteps := 3000000) [*]; rfl) (by simp (maxSteps := 3000000) [*]; rfl) (by simp (maxSteps := 3000000) [*]; rfl) hb72 (by apply cv <;> first | assumption | exact Hd.out (by assumption) | ((try (clear e0)); (try (clear e1)); (try (clear e2)); (try (clear e3)); (try (clear e4)); (try (clear e5)); (try (clear e6)); (try (clear e7)); (try (clear e8)); (try (clear e9)); (try (clear e10)); (try (clear e11)); omega)) ⟨by simp (maxSteps := 3000000) [*], by simp (maxSteps := 3000000) [*], by simp (maxSteps := 3000000) [*], by simp (maxSteps := 3000000) [*], by simp (maxSteps := 3000000) [*]⟩ (by simp (maxSteps := 3000000) [*]) (by simp (maxSteps := 3000000) [*]; rfl) ?_) | refine OutOK.run (by simp (maxSteps := 3000000) [*]; rfl) ?_ | refine AW.ret ?_ | refine AW.skip ?_ | refine AW.exit ?_ | refine fin_r ?_ | refine fin_n ?_ | refine AW.block ?_ | refine blockQ_n ?_ | refine blockQ_r ?_ | refine blockQ_e ?_ | refine blockQ_o rfl ?_)
    simp [Try.f74, smps]
  · clear hm hb hl hgb hmw hgl hh 
    refine ACall.of (N := 140) tok Try.func74 rfl rfl rfl (by simp) ?_
    repeat' (first | with_reducible refine OutOK.done ?_ | refine thenQ_n ?_ | refine thenQ_r ?_ | refine thenQ_e ?_ | refine AW.seq ?_ | refine AW.dreg tok mixed [5]  [(0, false), (1, false), (2, false), (4, false), (3, false), (5, true), (6, false), (7, false), (8, false), (9, false)] (by decide +kernel) rfl (by simp (maxSteps := 3000000) [*]; rfl) ?_ | refine AW.dreg tok mixed [5]  [(0, false), (1, false), (2, false), (4, false), (3, false), (5, true), (6, false), (7, false), (8, false), (9, false)] (by decide +kernel) rfl (by simp (maxSteps := 3000000) [*]; rfl) ?_ | refine AW.dreg tok mixed [9, 11, 13, 15]  [(0, false), (1, false), (2, false), (3, false), (4, false), (6, false), (7, false), (8, false), (10, false), (12, false), (14, false), (5, false), (9, true), (11, true), (13, true), (15, true), (16, false), (17, false), (18, false), (19, false)] (by decide +kernel) rfl (by simp (maxSteps := 3000000) [*]; rfl) ?_ | refine AW.dreg tok mixed [8]  [(0, false), (1, false), (7, false), (2, false), (3, false), (4, false), (5, false), (6, false), (8, true), (9, false), (10, false), (11, false), (12, false)] (by decide +kernel) rfl (by simp (maxSteps := 3000000) [*]; rfl) ?_ | refine AW.dreg tok mixed [8]  [(0, false), (1, false), (7, false), (2, false), (3, false), (4, false), (5, false), (6, false), (8, true), (9, false), (10, false), (11, false), (12, false)] (by decide +kernel) rfl (by simp (maxSteps := 3000000) [*]; rfl) ?_ | refine AW.reg tok (by simp (maxSteps := 3000000) [*]; rfl) ?_ | refine AW.ifB (by simp (maxSteps := 3000000) [*]; rfl) ?_ | refine IfG.t ?_ | refine IfG.f ?_ | (refine IfG.p (fun hg => ?_) (fun hg => ?_) <;> (try (have hg' := hg; simp at hg'))) | (refine IfG.n (fun hg => ?_) (fun hg => ?_) <;> (try (have hg' := hg; simp at hg'))) | (refine OutOK.gateP (fun hg => ?_) (fun hg => ?_) <;> (try (have hg' := hg; simp at hg'))) | (refine OutOK.gateN (fun hg => ?_) (fun hg => ?_) <;> (try (have hg' := hg; simp at hg'))) | (refine IfG.g (fun hg => ?_) (fun hg => ?_) <;> (try (have hg' := hg; simp at hg'))) | (refine OutOK.gate (fun hg => ?_) (fun hg => ?_) <;> (try (have hg' := hg; simp at hg'))) | (refine OutOK.callF [] (by simp (maxSteps := 3000000) [*]; rfl) (by simp (maxSteps := 3000000) [*]; rfl) (by simp (maxSteps := 3000000) [*]; rfl) hb76 (by apply c_impl_within <;> first | assumption | exact Hd.out (by assumption) | ((try (clear e0)); (try (clear e1)); (try (clear e2)); (try (clear e3)); (try (clear e4)); (try (clear e5)); (try (clear e6)); (try (clear e7)); (try (clear e8)); (try (clear e9)); (try (clear e10)); (try (clear e11)); omega)) ⟨by simp (maxSteps := 3000000) [*], by simp (maxSteps := 3000000) [*], by simp (maxSteps := 3000000) [*], by simp (maxSteps := 3000000) [*], by simp (maxSteps := 3000000) [*]⟩ (by simp (maxSteps := 3000000) [*]) (by simp (maxSteps := 3000000) [*]; rfl) ?_) | (refine OutOK.callF [] (by simp (maxSteps := 3000000) [*]; rfl) (by simp (maxSteps := 3000000) [*]; rfl) (by simp (maxSteps := 3000000) [*]; rfl) hb73 (by apply cc <;> first | assumption | exact Hd.out (by assumption) | ((try (clear e0)); (try (clear e1)); (try (clear e2)); (try (clear e3)); (try (clear e4)); (try (clear e5)); (try (clear e6)); (try (clear e7)); (try (clear e8)); (try (clear e9)); (try (clear e10)); (try (clear e11)); omega)) ⟨by simp (maxSteps := 3000000) [*], by simp (maxSteps := 3000000) [*], by simp (maxSteps := 3000000) [*], by simp (maxSteps := 3000000) [*], by simp (maxSteps := 3000000) [*]⟩ (by simp (maxSteps := 3000000) [*]) (by simp (maxSteps := 3000000) [*]; rfl) ?_) | (refine OutOK.callF [] (by simp (maxSteps := 3000000) [*]; rfl) (by simp (maxSteps := 3000000) [*]; rfl) (by simp (maxSteps := 3000000) [*]; rfl) hb72 (by apply cv <;> first | assumption | exact Hd.out (by assumption) | ((try (clear e0)); (try (clear e1)); (try (clear e2)); (try (clear e3)); (try (clear e4)); (try (clear e5)); (try (clear e6)); (try (clear e7)); (try (clear e8)); (try (clear e9)); (try (clear e10)); (try (clear e11)); omega)) ⟨by simp (maxSteps := 3000000) [*], by simp (maxSteps := 3000000) [*], by simp (maxSteps := 3000000) [*], by simp (maxSteps := 3000000) [*], by simp (maxSteps := 3000000) [*]⟩ (by simp (maxSteps := 3000000) [*]) (by simp (maxSteps := 3000000) [*]; rfl) ?_) | refine OutOK.run (by simp (maxSteps := 3000000) [*]; rfl) ?_ | refine AW.ret ?_ | refine AW.skip ?_ | refine AW.exit ?_ | refine fin_r ?_ | refine fin_n ?_ | refine AW.block ?_ | refine blockQ_n ?_ | refine blockQ_r ?_ | refine blockQ_e ?_ | refine blockQ_o rfl ?_)
    simp [Try.f74]
theorem s_app_R (l : List Smp) (kd sm am : Int) (ho : ByteArray) (hgl : goodS l = true) (hh : ∀ s ∈ l, SmpW s) (hho : ho.size ≤ 9223372036854775807) (h1 : ¬ kd = 1) (hR : inR 1 l.length sm = false) : ACall Try.prog 74 [.v (.sl true 8 (smps l)), stpD kd sm am ho] [.x, .x] [.v (.sl false 8 (smps (stepL l kd sm am ho))), boo (stepB l kd sm am ho)] := by
  obtain ⟨n1, hn1⟩ : ∃ n1, n1 = l.length + 1 := ⟨_, rfl⟩
  have h16 := (goodS_at hgl).1
  have e1 : wrap64 ((l.length : Int) + 1) = (n1 : Int) := by rw [w64 (by omega) (by omega)]; omega
  have b3 : (l.length + 1) * 72 ≤ 140737488355328 := by omega
  have b4 : l.length + 1 ≤ 4611686018427387904 := by omega
  have cc := c_slices_Clone_impl_Sample_impl_Sample l (by omega)
  have i0 : inR 0 500 0 = true := inR_iff.2 ⟨by omega, by omega⟩
  have hn1' : Hd _ := hn1
  clear hn1
  have hb := step_none (show stepR l kd sm am ho = none by simp [stepR, h1, hR])
  rw [show stepL l kd sm am ho = [] by simp [stepL, hb], hb]
  clear hb hgl hh 
  refine ACall.of (N := 140) tok Try.func74 rfl rfl rfl (by simp) ?_
  repeat' (first | with_reducible refine OutOK.done ?_ | refine thenQ_n ?_ | refine thenQ_r ?_ | refine thenQ_e ?_ | refine AW.seq ?_ | refine AW.dreg tok mixed [5]  [(0, false), (1, false), (2, false), (4, false), (3, false), (5, true), (6, false), (7, false), (8, false), (9, false)] (by decide +kernel) rfl (by simp [*]; rfl) ?_ | refine AW.dreg tok mixed [5]  [(0, false), (1, false), (2, false), (4, false), (3, false), (5, true), (6, false), (7, false), (8, false), (9, false)] (by decide +kernel) rfl (by simp [*]; rfl) ?_ | refine AW.dreg tok mixed [9, 11, 13, 15]  [(0, false), (1, false), (2, false), (3, false), (4, false), (6, false), (7, false), (8, false), (10, false), (12, false), (14, false), (5, false), (9, true), (11, true), (13, true), (15, true), (16, false), (17, false), (18, false), (19, false)] (by decide +kernel) rfl (by simp [*]; rfl) ?_ | refine AW.dreg tok mixed [8]  [(0, false), (1, false), (7, false), (2, false), (3, false), (4, false), (5, false), (6, false), (8, true), (9, false), (10, false), (11, false), (12, false)] (by decide +kernel) rfl (by simp [*]; rfl) ?_ | refine AW.dreg tok mixed [8]  [(0, false), (1, false), (7, false), (2, false), (3, false), (4, false), (5, false), (6, false), (8, true), (9, false), (10, false), (11, false), (12, false)] (by decide +kernel) rfl (by simp [*]; rfl) ?_ | refine AW.reg tok (by simp [*]; rfl) ?_ | refine AW.ifB (by simp [*]; rfl) ?_ | refine IfG.t ?_ | refine IfG.f ?_ | (refine IfG.p (fun hg => ?_) (fun hg => ?_) <;> (try (have hg' := hg; simp at hg'))) | (refine IfG.n (fun hg => ?_) (fun hg => ?_) <;> (try (have hg' := hg; simp at hg'))) | (refine OutOK.gateP (fun hg => ?_) (fun hg => ?_) <;> (try (have hg' := hg; simp at hg'))) | (refine OutOK.gateN (fun hg => ?_) (fun hg => ?_) <;> (try (have hg' := hg; simp at hg'))) | (refine IfG.g (fun hg => ?_) (fun hg => ?_) <;> (try (have hg' := hg; simp at hg'))) | (refine OutOK.gate (fun hg => ?_) (fun hg => ?_) <;> (try (have hg' := hg; simp at hg'))) | (refine OutOK.callF [] (by simp [*]; rfl) (by simp [*]; rfl) (by simp [*]; rfl) hb76 (by apply c_impl_within <;> first | assumption | exact Hd.out (by assumption) | ((try (clear e0)); (try (clear e1)); (try (clear e2)); (try (clear e3)); (try (clear e4)); (try (clear e5)); (try (clear e6)); (try (clear e7)); (try (clear e8)); (try (clear e9)); (try (clear e10)); (try (clear e11)); omega)) ⟨by simp [*], by simp [*], by simp [*], by simp [*], by simp [*]⟩ (by simp [*]) (by simp [*]; rfl) ?_) | (refine OutOK.callF [] (by simp [*]; rfl) (by simp [*]; rfl) (by simp [*]; rfl) hb73 (by apply cc <;> first | assumption | exact Hd.out (by assumption) | ((try (clear e0)); (try (clear e1)); (try (clear e2)); (try (clear e3)); (try (clear e4)); (try (clear e5)); (try (clear e6)); (try (clear e7)); (try (clear e8)); (try (clear e9)); (try (clear e10)); (try (clear e11)); omega)) ⟨by simp [*], by simp [*], by simp [*], by simp [*], by simp [*]⟩ (by simp [*]) (by simp [*]; rfl) ?_) | refine OutOK.run (by simp [*]; rfl) ?_ | refine AW.ret ?_ | refine AW.skip ?_ | refine AW.exit ?_ | refine fin_r ?_ | refine fin_n ?_ | refine AW.block ?_ | refine blockQ_n ?_ | refine blockQ_r ?_ | refine blockQ_e ?_ | refine blockQ_o rfl ?_)
  simp [Try.f74, smps]
theorem s_app_z (l : List Smp) (kd sm am : Int) (ho : ByteArray) (hgl : goodS l = true) (hh : ∀ s ∈ l, SmpW s) (hho : ho.size ≤ 9223372036854775807) (h1 : ¬ kd = 1) (hR : inR 1 l.length sm = true) (k : Nat) (hkl : k < l.length) (hk : sm = ((k + 1 : Nat) : Int)) (h2 : ¬ kd = 2) (hA : inR 0 500 am = false ∨ am = 0) : ACall Try.prog 74 [.v (.sl true 8 (smps l)), stpD kd sm am ho] [.x, .x] [.v (.sl false 8 (smps (stepL l kd sm am ho))), boo (stepB l kd sm am ho)] := by
  obtain ⟨n1, hn1⟩ : ∃ n1, n1 = l.length + 1 := ⟨_, rfl⟩
  have h16 := (goodS_at hgl).1
  have e1 : wrap64 ((l.length : Int) + 1) = (n1 : Int) := by rw [w64 (by omega) (by omega)]; omega
  have b3 : (l.length + 1) * 72 ≤ 140737488355328 := by omega
  have b4 : l.length + 1 ≤ 4611686018427387904 := by omega
  have cc := c_slices_Clone_impl_Sample_impl_Sample l (by omega)
  have i0 : inR 0 500 0 = true := inR_iff.2 ⟨by omega, by omega⟩
  have hn1' : Hd _ := hn1
  clear hn1
  have e2 : wrap64 (sm - 1) = (k : Int) := by rw [w64 (by ((try (clear e0)); (try (clear e1)); (try (clear e2)); (try (clear e3)); (try (clear e4)); (try (clear e5)); (try (clear e6)); (try (clear e7)); (try (clear e8)); (try (clear e9)); (try (clear e10)); (try (clear e11)); omega)) (by ((try (clear e0)); (try (clear e1)); (try (clear e2)); (try (clear e3)); (try (clear e4)); (try (clear e5)); (try (clear e6)); (try (clear e7)); (try (clear e8)); (try (clear e9)); (try (clear e10)); (try (clear e11)); omega))]; ((try (clear e0)); (try (clear e1)); (try (clear e2)); (try (clear e3)); (try (clear e4)); (try (clear e5)); (try (clear e6)); (try (clear e7)); (try (clear e8)); (try (clear e9)); (try (clear e10)); (try (clear e11)); omega)
  have hf : SmpF l[k] k := (good_x hgl hh hkl).2.1
  have hid : l[k].id = sm := by rw [hf.id, hk]
  have hk' : Hd _ := hk
  have hxw := hh l[k] (List.getElem_mem hkl)
  have hn : inR 1 l[k].lef am = false := by
    have := hf.l2; have := hf.t2
    rw [inR_not]
    rcases hA with hA | hA
    · rw [inR_not] at hA; omega
    · omega
  have hb := step_none (show stepR l kd sm am ho = none by rw [step_at h1 hk hkl, if_neg (by simp [h2]), if_neg (by simp [hn]), if_neg (by simp [hn])])
  rw [show stepL l kd sm am ho = [] by simp [stepL, hb], hb]
  clear hb hgl hh hn hk hid hf hxw
  rcases hA with hA | hA
  · by_cases ha : am = 0
    · subst ha
      refine ACall.of (N := 140) tok Try.func74 rfl rfl rfl (by simp) ?_
      repeat' (first | with_reducible refine OutOK.done ?_ | refine thenQ_n ?_ | refine thenQ_r ?_ | refine thenQ_e ?_ | refine AW.seq ?_ | refine AW.dreg tok mixed [5]  [(0, false), (1, false), (2, false), (4, false), (3, false), (5, true), (6, false), (7, false), (8, false), (9, false)] (by decide +kernel) rfl (by simp [*]; rfl) ?_ | refine AW.dreg tok mixed [5]  [(0, false), (1, false), (2, false), (4, false), (3, false), (5, true), (6, false), (7, false), (8, false), (9, false)] (by decide +kernel) rfl (by simp [*]; rfl) ?_ | refine AW.dreg tok mixed [9, 11, 13, 15]  [(0, false), (1, false), (2, false), (3, false), (4, false), (6, false), (7, false), (8, false), (10, false), (12, false), (14, false), (5, false), (9, true), (11, true), (13, true), (15, true), (16, false), (17, false), (18, false), (19, false)] (by decide +kernel) rfl (by simp [*]; rfl) ?_ | refine AW.dreg tok mixed [8]  [(0, false), (1, false), (7, false), (2, false), (3, false), (4, false), (5, false), (6, false), (8, true), (9, false), (10, false), (11, false), (12, false)] (by decide +kernel) rfl (by simp [*]; rfl) ?_ | refine AW.dreg tok mixed [8]  [(0, false), (1, false), (7, false), (2, false), (3, false), (4, false), (5, false), (6, false), (8, true), (9, false), (10, false), (11, false), (12, false)] (by decide +kernel) rfl (by simp [*]; rfl) ?_ | refine AW.reg tok (by simp [*]; rfl) ?_ | refine AW.ifB (by simp [*]; rfl) ?_ | refine IfG.t ?_ | refine IfG.f ?_ | (refine IfG.p (fun hg => ?_) (fun hg => ?_) <;> (try (have hg' := hg; simp at hg'))) | (refine IfG.n (fun hg => ?_) (fun hg => ?_) <;> (try (have hg' := hg; simp at hg'))) | (refine OutOK.gateP (fun hg => ?_) (fun hg => ?_) <;> (try (have hg' := hg; simp at hg'))) | (refine OutOK.gateN (fun hg => ?_) (fun hg => ?_) <;> (try (have hg' := hg; simp at hg'))) | (refine IfG.g (fun hg => ?_) (fun hg => ?_) <;> (try (have hg' := hg; simp at hg'))) | (refine OutOK.gate (fun hg => ?_) (fun hg => ?_) <;> (try (have hg' := hg; simp at hg'))) | (refine OutOK.callF [] (by simp [*]; rfl) (by simp [*]; rfl) (by simp [*]; rfl) hb76 (by apply c_impl_within <;> first | assumption | exact Hd.out (by assumption) | ((try (clear e0)); (try (clear e1)); (try (clear e2)); (try (clear e3)); (try (clear e4)); (try (clear e5)); (try (clear e6)); (try (clear e7)); (try (clear e8)); (try (clear e9)); (try (clear e10)); (try (clear e11)); omega)) ⟨by simp [*], by simp [*], by simp [*], by simp [*], by simp [*]⟩ (by simp [*]) (by simp [*]; rfl) ?_) | (refine OutOK.callF [] (by simp [*]; rfl) (by simp [*]; rfl) (by simp [*]; rfl) hb73 (by apply cc <;> first | assumption | exact Hd.out (by assumption) | ((try (clear e0)); (try (clear e1)); (try (clear e2)); (try (clear e3)); (try (clear e4)); (try (clear e5)); (try (clear e6)); (try (clear e7)); (try (clear e8)); (try (clear e9)); (try (clear e10)); (try (clear e11)); omega)) ⟨by simp [*], by simp [*], by simp [*], by simp [*], by simp [*]⟩ (by simp [*]) (by simp [*]; rfl) ?_) | refine OutOK.run (by simp [*]; rfl) ?_ | refine AW.ret ?_ | refine AW.skip ?_ | refine AW.exit ?_ | refine fin_r ?_ | refine fin_n ?_ | refine AW.block ?_ | refine blockQ_n ?_ | refine blockQ_r ?_ | refine blockQ_e ?_ | refine blockQ_o rfl ?_)
      simp [Try.f74, smps]
    · refine ACall.of (N := 140) tok Try.func74 rfl rfl rfl (by simp) ?_
      repeat' (first | with_reducible refine OutOK.done ?_ | refine thenQ_n ?_ | refine thenQ_r ?_ | refine thenQ_e ?_ | refine AW.seq ?_ | refine AW.dreg tok mixed [5]  [(0, false), (1, false), (2, false), (4, false), (3, false), (5, true), (6, false), (7, false), (8, false), (9, false)] (by decide +kernel) rfl (by simp [*]; rfl) ?_ | refine AW.dreg tok mixed [5]  [(0, false), (1, false), (2, false), (4, false), (3, false), (5, true), (6, false), (7, false), (8, false), (9, false)] (by decide +kernel) rfl (by simp [*]; rfl) ?_ | refine AW.dreg tok mixed [9, 11, 13, 15]  [(0, false), (1, false), (2, false), (3, false), (4, false), (6, false), (7, false), (8, false), (10, false), (12, false), (14, false), (5, false), (9, true), (11, true), (13, true), (15, true), (16, false), (17, false), (18, false), (19, false)] (by decide +kernel) rfl (by simp [*]; rfl) ?_ | refine AW.dreg tok mixed [8]  [(0, false), (1, false), (7, false), (2, false), (3, false), (4, false), (5, false), (6, false), (8, true), (9, false), (10, false), (11, false), (12, false)] (by decide +kernel) rfl (by simp [*]; rfl) ?_ | refine AW.dreg tok mixed [8]  [(0, false), (1, false), (7, false), (2, false), (3, false), (4, false), (5, false), (6, false), (8, true), (9, false), (10, false), (11, false), (12, false)] (by decide +kernel) rfl (by simp [*]; rfl) ?_ | refine AW.reg tok (by simp [*]; rfl) ?_ | refine AW.ifB (by simp [*]; rfl) ?_ | refine IfG.t ?_ | refine IfG.f ?_ | (refine IfG.p (fun hg => ?_) (fun hg => ?_) <;> (try (have hg' := hg; simp at hg'))) | (refine IfG.n (fun hg => ?_) (fun hg => ?_) <;> (try (have hg' := hg; simp at hg'))) | (refine OutOK.gateP (fun hg => ?_) (fun hg => ?_) <;> (try (have hg' := hg; simp at hg'))) | (refine OutOK.gateN (fun hg => ?_) (fun hg => ?_) <;> (try (have hg' := hg; simp at hg'))) | (refine IfG.g (fun hg => ?_) (fun hg => ?_) <;> (try (have hg' := hg; simp at hg'))) | (refine OutOK.gate (fun hg => ?_) (fun hg => ?_) <;> (try (have hg' := hg; simp at hg'))) | (refine OutOK.callF [] (by simp [*]; rfl) (by simp [*]; rfl) (by simp [*]; rfl) hb76 (by apply c_impl_within <;> first | assumption | exact Hd.out (by assumption) | ((try (clear e0)); (try (clear e1)); (try (clear e2)); (try (clear e3)); (try (clear e4)); (try (clear e5)); (try (clear e6)); (try (clear e7)); (try (clear e8)); (try (clear e9)); (try (clear e10)); (try (clear e11)); omega)) ⟨by simp [*], by simp [*], by simp [*], by simp [*], by simp [*]⟩ (by simp [*]) (by simp [*]; rfl) ?_) | (refine OutOK.callF [] (by simp [*]; rfl) (by simp [*]; rfl) (by simp [*]; rfl) hb73 (by apply cc <;> first | assumption | exact Hd.out (by assumption) | ((try (clear e0)); (try (clear e1)); (try (clear e2)); (try (clear e3)); (try (clear e4)); (try (clear e5)); (try (clear e6)); (try (clear e7)); (try (clear e8)); (try (clear e9)); (try (clear e10)); (try (clear e11)); omega)) ⟨by simp [*], by simp [*], by simp [*], by simp [*], by simp [*]⟩ (by simp [*]) (by simp [*]; rfl) ?_) | refine OutOK.run (by simp [*]; rfl) ?_ | refine AW.ret ?_ | refine AW.skip ?_ | refine AW.exit ?_ | refine fin_r ?_ | refine fin_n ?_ | refine AW.block ?_ | refine blockQ_n ?_ | refine blockQ_r ?_ | refine blockQ_e ?_ | refine blockQ_o rfl ?_)
      simp [Try.f74, smps]
  · subst hA
    refine ACall.of (N := 140) tok Try.func74 rfl rfl rfl (by simp) ?_
    repeat' (first | with_reducible refine OutOK.done ?_ | refine thenQ_n ?_ | refine thenQ_r ?_ | refine thenQ_e ?_ | refine AW.seq ?_ | refine AW.dreg tok mixed [5]  [(0, false), (1, false), (2, false), (4, false), (3, false), (5, true), (6, false), (7, false), (8, false), (9, false)] (by decide +kernel) rfl (by simp [*]; rfl) ?_ | refine AW.dreg tok mixed [5]  [(0, false), (1, false), (2, false), (4, false), (3, false), (5, true), (6, false), (7, false), (8, false), (9, false)] (by decide +kernel) rfl (by simp [*]; rfl) ?_ | refine AW.dreg tok mixed [9, 11, 13, 15]  [(0, false), (1, false), (2, false), (3, false), (4, false), (6, false), (7, false), (8, false), (10, false), (12, false), (14, false), (5, false), (9, true), (11, true), (13, true), (15, true), (16, false), (17, false), (18, false), (19, false)] (by decide +kernel) rfl (by simp [*]; rfl) ?_ | refine AW.dreg tok mixed [8]  [(0, false), (1, false), (7, false), (2, false), (3, false), (4, false), (5, false), (6, false), (8, true), (9, false), (10, false), (11, false), (12, false)] (by decide +kernel) rfl (by simp [*]; rfl) ?_ | refine AW.dreg tok mixed [8]  [(0, false), (1, false), (7, false), (2, false), (3, false), (4, false), (5, false), (6, false), (8, true), (9, false), (10, false), (11, false), (12, false)] (by decide +kernel) rfl (by simp [*]; rfl) ?_ | refine AW.reg tok (by simp [*]; rfl) ?_ | refine AW.ifB (by simp [*]; rfl) ?_ | refine IfG.t ?_ | refine IfG.f ?_ | (refine IfG.p (fun hg => ?_) (fun hg => ?_) <;> (try (have hg' := hg; simp at hg'))) | (refine IfG.n (fun hg => ?_) (fun hg => ?_) <;> (try (have hg' := hg; simp at hg'))) | (refine OutOK.gateP (fun hg => ?_) (fun hg => ?_) <;> (try (have hg' := hg; simp at hg'))) | (refine OutOK.gateN (fun hg => ?_) (fun hg => ?_) <;> (try (have hg' := hg; simp at hg'))) | (refine IfG.g (fun hg => ?_) (fun hg => ?_) <;> (try (have hg' := hg; simp at hg'))) | (refine OutOK.gate (fun hg => ?_) (fun hg => ?_) <;> (try (have hg' := hg; simp at hg'))) | (refine OutOK.callF [] (by simp [*]; rfl) (by simp [*]; rfl) (by simp [*]; rfl) hb76 (by apply c_impl_within <;> first | assumption | exact Hd.out (by assumption) | ((try (clear e0)); (try (clear e1)); (try (clear e2)); (try (clear e3)); (try (clear e4)); (try (clear e5)); (try (clear e6)); (try (clear e7)); (try (clear e8)); (try (clear e9)); (try (clear e10)); (try (clear e11)); omega)) ⟨by simp [*], by simp [*], by simp [*], by simp [*], by simp [*]⟩ (by simp [*]) (by simp [*]; rfl) ?_) | (refine OutOK.callF [] (by simp [*]; rfl) (by simp [*]; rfl) (by simp [*]; rfl) hb73 (by apply cc <;> first | assumption | exact Hd.out (by assumption) | ((try (clear e0)); (try (clear e1)); (try (clear e2)); (try (clear e3)); (try (clear e4)); (try (clear e5)); (try (clear e6)); (try (clear e7)); (try (clear e8)); (try (clear e9)); (try (clear e10)); (try (clear e11)); omega)) ⟨by simp [*], by simp [*], by simp [*], by simp [*], by simp [*]⟩ (by simp [*]) (by simp [*]; rfl) ?_) | refine OutOK.run (by simp [*]; rfl) ?_ | refine AW.ret ?_ | refine AW.skip ?_ | refine AW.exit ?_ | refine fin_r ?_ | refine fin_n ?_ | refine AW.block ?_ | refine blockQ_n ?_ | refine blockQ_r ?_ | refine blockQ_e ?_ | refine blockQ_o rfl ?_)
    simp [Try.f74, smps]
theorem s_app_2n (l : List Smp) (kd sm am : Int) (ho : ByteArray) (hgl : goodS l = true) (hh : ∀ s ∈ l, SmpW s) (hho : ho.size ≤ 9223372036854775807) (h1 : ¬ kd = 1) (hR : inR 1 l.length sm = true) (k : Nat) (hkl : k < l.length) (hk : sm = ((k + 1 : Nat) : Int)) (h2 : kd = 2) (ha : ¬ am = 0) : ACall Try.prog 74 [.v (.sl true 8 (smps l)), stpD kd sm am ho] [.x, .x] [.v (.sl false 8 (smps (stepL l kd sm am ho))), boo (stepB l kd sm am ho)] := by
  obtain ⟨n1, hn1⟩ : ∃ n1, n1 = l.length + 1 := ⟨_, rfl⟩
  have h16 := (goodS_at hgl).1
  have e1 : wrap64 ((l.length : Int) + 1) = (n1 : Int) := by rw [w64 (by omega) (by omega)]; omega
  have b3 : (l.length + 1) * 72 ≤ 140737488355328 := by omega
  have b4 : l.length + 1 ≤ 4611686018427387904 := by omega
  have cc := c_slices_Clone_impl_Sample_impl_Sample l (by omega)
  have i0 : inR 0 500 0 = true := inR_iff.2 ⟨by omega, by omega⟩
  have hn1' : Hd _ := hn1
  clear hn1
  have e2 : wrap64 (sm - 1) = (k : Int) := by rw [w64 (by ((try (clear e0)); (try (clear e1)); (try (clear e2)); (try (clear e3)); (try (clear e4)); (try (clear e5)); (try (clear e6)); (try (clear e7)); (try (clear e8)); (try (clear e9)); (try (clear e10)); (try (clear e11)); omega)) (by ((try (clear e0)); (try (clear e1)); (try (clear e2)); (try (clear e3)); (try (clear e4)); (try (clear e5)); (try (clear e6)); (try (clear e7)); (try (clear e8)); (try (clear e9)); (try (clear e10)); (try (clear e11)); omega))]; ((try (clear e0)); (try (clear e1)); (try (clear e2)); (try (clear e3)); (try (clear e4)); (try (clear e5)); (try (clear e6)); (try (clear e7)); (try (clear e8)); (try (clear e9)); (try (clear e10)); (try (clear e11)); omega)
  have hf : SmpF l[k] k := (good_x hgl hh hkl).2.1
  have hid : l[k].id = sm := by rw [hf.id, hk]
  have hk' : Hd _ := hk
  have hxw := hh l[k] (List.getElem_mem hkl)
  have hb := step_none (show stepR l kd sm am ho = none by rw [step_at h1 hk hkl, if_neg (by simp [ha]), if_neg (by simp [h2]), if_neg (by simp [h2])])
  subst h2
  rw [show stepL l 2 sm am ho = [] by simp [stepL, hb], hb]
  clear hb hgl hh hk hid hf hxw h1
  refine ACall.of (N := 140) tok Try.func74 rfl rfl rfl (by simp) ?_
  repeat' (first | with_reducible refine OutOK.done ?_ | refine thenQ_n ?_ | refine thenQ_r ?_ | refine thenQ_e ?_ | refine AW.seq ?_ | refine AW.dreg tok mixed [5]  [(0, false), (1, false), (2, false), (4, false), (3, false), (5, true), (6, false), (7, false), (8, false), (9, false)] (by decide +kernel) rfl (by simp [*]; rfl) ?_ | refine AW.dreg tok mixed [5]  [(0, false), (1, false), (2, false), (4, false), (3, false), (5, true), (6, false), (7, false), (8, false), (9, false)] (by decide +kernel) rfl (by simp [*]; rfl) ?_ | refine AW.dreg tok mixed [9, 11, 13, 15]  [(0, false), (1, false), (2, false), (3, false), (4, false), (6, false), (7, false), (8, false), (10, false), (12, false), (14, false), (5, false), (9, true), (11, true), (13, true), (15, true), (16, false), (17, false), (18, false), (19, false)] (by decide +kernel) rfl (by simp [*]; rfl) ?_ | refine AW.dreg tok mixed [8]  [(0, false), (1, false), (7, false), (2, false), (3, false), (4, false), (5, false), (6, false), (8, true), (9, false), (10, false), (11, false), (12, false)] (by decide +kernel) rfl (by simp [*]; rfl) ?_ | refine AW.dreg tok mixed [8]  [(0, false), (1, false), (7, false), (2, false), (3, false), (4, false), (5, false), (6, false), (8, true), (9, false), (10, false), (11, false), (12, false)] (by decide +kernel) rfl (by simp [*]; rfl) ?_ | refine AW.reg tok (by simp [*]; rfl) ?_ | refine AW.ifB (by simp [*]; rfl) ?_ | refine IfG.t ?_ | refine IfG.f ?_ | (refine IfG.p (fun hg => ?_) (fun hg => ?_) <;> (try (have hg' := hg; simp at hg'))) | (refine IfG.n (fun hg => ?_) (fun hg => ?_) <;> (try (have hg' := hg; simp at hg'))) | (refine OutOK.gateP (fun hg => ?_) (fun hg => ?_) <;> (try (have hg' := hg; simp at hg'))) | (refine OutOK.gateN (fun hg => ?_) (fun hg => ?_) <;> (try (have hg' := hg; simp at hg'))) | (refine IfG.g (fun hg => ?_) (fun hg => ?_) <;> (try (have hg' := hg; simp at hg'))) | (refine OutOK.gate (fun hg => ?_) (fun hg => ?_) <;> (try (have hg' := hg; simp at hg'))) | (refine OutOK.callF [] (by simp [*]; rfl) (by simp [*]; rfl) (by simp [*]; rfl) hb76 (by apply c_impl_within <;> first | assumption | exact Hd.out (by assumption) | ((try (clear e0)); (try (clear e1)); (try (clear e2)); (try (clear e3)); (try (clear e4)); (try (clear e5)); (try (clear e6)); (try (clear e7)); (try (clear e8)); (try (clear e9)); (try (clear e10)); (try (clear e11)); omega)) ⟨by simp [*], by simp [*], by simp [*], by simp [*], by simp [*]⟩ (by simp [*]) (by simp [*]; rfl) ?_) | (refine OutOK.callF [] (by simp [*]; rfl) (by simp [*]; rfl) (by simp [*]; rfl) hb73 (by apply cc <;> first | assumption | exact Hd.out (by assumption) | ((try (clear e0)); (try (clear e1)); (try (clear e2)); (try (clear e3)); (try (clear e4)); (try (clear e5)); (try (clear e6)); (try (clear e7)); (try (clear e8)); (try (clear e9)); (try (clear e10)); (try (clear e11)); omega)) ⟨by simp [*], by simp [*], by simp [*], by simp [*], by simp [*]⟩ (by simp [*]) (by simp [*]; rfl) ?_) | refine OutOK.run (by simp [*]; rfl) ?_ | refine AW.ret ?_ | refine AW.skip ?_ | refine AW.exit ?_ | refine fin_r ?_ | refine fin_n ?_ | refine AW.block ?_ | refine blockQ_n ?_ | refine blockQ_r ?_ | refine blockQ_e ?_ | refine blockQ_o rfl ?_)
  simp [Try.f74, smps]
theorem s_app_2 (l : List Smp) (kd sm am : Int) (ho : ByteArray) (hgl : goodS l = true) (hh : ∀ s ∈ l, SmpW s) (hho : ho.size ≤ 9223372036854775807) (h1 : ¬ kd = 1) (hR : inR 1 l.length sm = true) (k : Nat) (hkl : k < l.length) (hk : sm = ((k + 1 : Nat) : Int)) (h2 : kd = 2) (ha : am = 0) : ACall Try.prog 74 [.v (.sl true 8 (smps l)), stpD kd sm am ho] [.x, .x] [.v (.sl false 8 (smps (stepL l kd sm am ho))), boo (stepB l kd sm am ho)] := by
  obtain ⟨n1, hn1⟩ : ∃ n1, n1 = l.length + 1 := ⟨_, rfl⟩
  have h16 := (goodS_at hgl).1
  have e1 : wrap64 ((l.length : Int) + 1) = (n1 : Int) := by rw [w64 (by omega) (by omega)]; omega
  have b3 : (l.length + 1) * 72 ≤ 140737488355328 := by omega
  have b4 : l.length + 1 ≤ 4611686018427387904 := by omega
  have cc := c_slices_Clone_impl_Sample_impl_Sample l (by omega)
  have i0 : inR 0 500 0 = true := inR_iff.2 ⟨by omega, by omega⟩
  have hn1' : Hd _ := hn1
  clear hn1
  have e2 : wrap64 (sm - 1) = (k : Int) := by rw [w64 (by ((try (clear e0)); (try (clear e1)); (try (clear e2)); (try (clear e3)); (try (clear e4)); (try (clear e5)); (try (clear e6)); (try (clear e7)); (try (clear e8)); (try (clear e9)); (try (clear e10)); (try (clear e11)); omega)) (by ((try (clear e0)); (try (clear e1)); (try (clear e2)); (try (clear e3)); (try (clear e4)); (try (clear e5)); (try (clear e6)); (try (clear e7)); (try (clear e8)); (try (clear e9)); (try (clear e10)); (try (clear e11)); omega))]; ((try (clear e0)); (try (clear e1)); (try (clear e2)); (try (clear e3)); (try (clear e4)); (try (clear e5)); (try (clear e6)); (try (clear e7)); (try (clear e8)); (try (clear e9)); (try (clear e10)); (try (clear e11)); omega)
  have hf : SmpF l[k] k := (good_x hgl hh hkl).2.1
  have hid : l[k].id = sm := by rw [hf.id, hk]
  have hk' : Hd _ := hk
  have hxw := hh l[k] (List.getElem_mem hkl)
  obtain ⟨hb, hl⟩ := step_some (show stepR l kd sm am ho = _ by rw [step_at h1 hk hkl, if_pos ⟨h2, ha⟩])
  have hmw : ∀ s ∈ l.set k ⟨l[k].id, l[k].par, l[k].ctx, l[k].tak, l[k].lef, l[k].usd, l[k].giv, ho⟩, SmpW s := W_set hh ⟨hho, hxw.2⟩
  subst h2 ha
  have cv := c_impl_IsValidSamples _ (by simp; omega) hmw
  have hm : stepL l 2 sm 0 ho = if goodS (l.set k ⟨l[k].id, l[k].par, l[k].ctx, l[k].tak, l[k].lef, l[k].usd, l[k].giv, ho⟩) = true then l.set k ⟨l[k].id, l[k].par, l[k].ctx, l[k].tak, l[k].lef, l[k].usd, l[k].giv, ho⟩ else [] := by
    split
    · rename_i e; exact hl e
    · rename_i e; have : stepB l 2 sm 0 ho = false := by rw [hb]; simpa using e
      simp [stepL, this]
  rw [hm, hb]
  cases hgb : goodS (l.set k ⟨l[k].id, l[k].par, l[k].ctx, l[k].tak, l[k].lef, l[k].usd, l[k].giv, ho⟩) <;> rw [hgb] at cv
  · clear hm hb hl hgb hmw hgl hh hk hid hf hxw h1
    refine ACall.of (N := 140) tok Try.func74 rfl rfl rfl (by simp) ?_
    repeat' (first | with_reducible refine OutOK.done ?_ | refine thenQ_n ?_ | refine thenQ_r ?_ | refine thenQ_e ?_ | refine AW.seq ?_ | refine AW.dreg tok mixed [5]  [(0, false), (1, false), (2, false), (4, false), (3, false), (5, true), (6, false), (7, false), (8, false), (9, false)] (by decide +kernel) rfl (by simp (maxSteps := 3000000) [*]; rfl) ?_ | refine AW.dreg tok mixed [5]  [(0, false), (1, false), (2, false), (4, false), (3, false), (5, true), (6, false), (7, false), (8, false), (9, false)] (by decide +kernel) rfl (by simp (maxSteps := 3000000) [*]; rfl) ?_ | refine AW.dreg tok mixed [9, 11, 13, 15]  [(0, false), (1, false), (2, false), (3, false), (4, false), (6, false), (7, false), (8, false), (10, false), (12, false), (14, false), (5, false), (9, true), (11, true), (13, true), (15, true), (16, false), (17, false), (18, false), (19, false)] (by decide +kernel) rfl (by simp (maxSteps := 3000000) [*]; rfl) ?_ | refine AW.dreg tok mixed [8]  [(0, false), (1, false), (7, false), (2, false), (3, false), (4, false), (5, false), (6, false), (8, true), (9, false), (10, false), (11, false), (12, false)] (by decide +kernel) rfl (by simp (maxSteps := 3000000) [*]; rfl) ?_ | refine AW.dreg tok mixed [8]  [(0, false), (1, false), (7, false), (2, false), (3, false), (4, false), (5, false), (6, false), (8, true), (9, false), (10, false), (11, false), (12, false)] (by decide +kernel) rfl (by simp (maxSteps := 3000000) [*]; rfl) ?_ | refine AW.reg tok (by simp (maxSteps := 3000000) [*]; rfl) ?_ | refine AW.ifB (by simp (maxSteps := 3000000) [*]; rfl) ?_ | refine IfG.t ?_ | refine IfG.f ?_ | (refine IfG.p (fun hg => ?_) (fun hg => ?_) <;> (try (have hg' := hg; simp at hg'))) | (refine IfG.n (fun hg => ?_) (fun hg => ?_) <;> (try (have hg' := hg; simp at hg'))) | (refine OutOK.gateP (fun hg => ?_) (fun hg => ?_) <;> (try (have hg' := hg; simp at hg'))) | (refine OutOK.gateN (fun hg => ?_) (fun hg => ?_) <;> (try (have hg' := hg; simp at hg'))) | (refine IfG.g (fun hg => ?_) (fun hg => ?_) <;> (try (have hg' := hg; simp at hg'))) | (refine OutOK.gate (fun hg => ?_) (fun hg => ?_) <;> (try (have hg' := hg; simp at hg'))) | (refine OutOK.callF [] (by simp (maxSteps := 3000000) [*]; rfl) (by simp (maxSteps := 3000000) [*]; rfl) (by simp (maxSteps := 3000000) [*]; rfl) hb76 (by apply c_impl_within <;> first | assumption | exact Hd.out (by assumption) | ((try (clear e0)); (try (clear e1)); (try (clear e2)); (try (clear e3)); (try (clear e4)); (try (clear e5)); (try (clear e6)); (try (clear e7)); (try (clear e8)); (try (clear e9)); (try (clear e10)); (try (clear e11)); omega)) ⟨by simp (maxSteps := 3000000) [*], by simp (maxSteps := 3000000) [*], by simp (maxSteps := 3000000) [*], by simp (maxSteps := 3000000) [*], by simp (maxSteps := 3000000) [*]⟩ (by simp (maxSteps := 3000000) [*]) (by simp (maxSteps := 3000000) [*]; rfl) ?_) | (refine OutOK.callF [] (by simp (maxSteps := 3000000) [*]; rfl) (by simp (maxSteps := 3000000) [*]; rfl) (by simp (maxSteps := 3000000) [*]; rfl) hb73 (by apply cc <;> first | assumption | exact Hd.out (by assumption) | ((try (clear e0)); (try (clear e1)); (try (clear e2)); (try (clear e3)); (try (clear e4)); (try (clear e5)); (try (clear e6)); (try (clear e7)); (try (clear e8)); (try (clear e9)); (try (clear e10)); (try (clear e11)); omega)) ⟨by simp (maxSteps := 3000000) [*], by simp (maxSteps := 3000000) [*], by simp (maxSteps := 3000000) [*], by simp (maxSteps := 3000000) [*], by simp (maxSteps := 3000000) [*]⟩ (by simp (maxSteps := 3000000) [*]) (by simp (maxSteps := 3000000) [*]; rfl) ?_) | (refine OutOK.callF [] (by simp (maxSteps := 3000000) [*]; rfl) (by simp (maxSteps := 3000000) [*]; rfl) (by simp (maxSteps := 3000000) [*]; rfl) hb72 (by apply cv <;> first | assumption | exact Hd.out (by assumption) | ((try (clear e0)); (try (clear e1)); (try (clear e2)); (try (clear e3)); (try (clear e4)); (try (clear e5)); (try (clear e6)); (try (clear e7)); (try (clear e8)); (try (clear e9)); (try (clear e10)); (try (clear e11)); omega)) ⟨by simp (maxSteps := 3000000) [*], by simp (maxSteps := 3000000) [*], by simp (maxSteps := 3000000) [*], by simp (maxSteps := 3000000) [*], by simp (maxSteps := 3000000) [*]⟩ (by simp (maxSteps := 3000000) [*]) (by simp (maxSteps := 3000000) [*]; rfl) ?_) | refine OutOK.run (by simp (maxSteps := 3000000) [*]; rfl) ?_ | refine AW.ret ?_ | refine AW.skip ?_ | refine AW.exit ?_ | refine fin_r ?_ | refine fin_n ?_ | refine AW.block ?_ | refine blockQ_n ?_ | refine blockQ_r ?_ | refine blockQ_e ?_ | refine blockQ_o rfl ?_)
    simp [Try.f74, smps]
  · clear hm hb hl hgb hmw hgl hh hk hid hf hxw h1
    refine ACall.of (N := 140) tok Try.func74 rfl rfl rfl (by simp) ?_
    repeat' (first | with_reducible refine OutOK.done ?_ | refine thenQ_n ?_ | refine thenQ_r ?_ | refine thenQ_e ?_ | refine AW.seq ?_ | refine AW.dreg tok mixed [5]  [(0, false), (1, false), (2, false), (4, false), (3, false), (5, true), (6, false), (7, false), (8, false), (9, false)] (by decide +kernel) rfl (by simp (maxSteps := 3000000) [*]; rfl) ?_ | refine AW.dreg tok mixed [5]  [(0, false), (1, false), (2, false), (4, false), (3, false), (5, true), (6, false), (7, false), (8, false), (9, false)] (by decide +kernel) rfl (by simp (maxSteps := 3000000) [*]; rfl) ?_ | refine AW.dreg tok mixed [9, 11, 13, 15]  [(0, false), (1, false), (2, false), (3, false), (4, false), (6, false), (7, false), (8, false), (10, false), (12, false), (14, false), (5, false), (9, true), (11, true), (13, true), (15, true), (16, false), (17, false), (18, false), (19, false)] (by decide +kernel) rfl (by simp (maxSteps := 3000000) [*]; rfl) ?_ | refine AW.dreg tok mixed [8]  [(0, false), (1, false), (7, false), (2, false), (3, false), (4, false), (5, false), (6, false), (8, true), (9, false), (10, false), (11, false), (12, false)] (by decide +kernel) rfl (by simp (maxSteps := 3000000) [*]; rfl) ?_ | refine AW.dreg tok mixed [8]  [(0, false), (1, false), (7, false), (2, false), (3, false), (4, false), (5, false), (6, false), (8, true), (9, false), (10, false), (11, false), (12, false)] (by decide +kernel) rfl (by simp (maxSteps := 3000000) [*]; rfl) ?_ | refine AW.reg tok (by simp (maxSteps := 3000000) [*]; rfl) ?_ | refine AW.ifB (by simp (maxSteps := 3000000) [*]; rfl) ?_ | refine IfG.t ?_ | refine IfG.f ?_ | (refine IfG.p (fun hg => ?_) (fun hg => ?_) <;> (try (have hg' := hg; simp at hg'))) | (refine IfG.n (fun hg => ?_) (fun hg => ?_) <;> (try (have hg' := hg; simp at hg'))) | (refine OutOK.gateP (fun hg => ?_) (fun hg => ?_) <;> (try (have hg' := hg; simp at hg'))) | (refine OutOK.gateN (fun hg => ?_) (fun hg => ?_) <;> (try (have hg' := hg; simp at hg'))) | (refine IfG.g (fun hg => ?_) (fun hg => ?_) <;> (try (have hg' := hg; simp at hg'))) | (refine OutOK.gate (fun hg => ?_) (fun hg => ?_) <;> (try (have hg' := hg; simp at hg'))) | (refine OutOK.callF [] (by simp (maxSteps := 3000000) [*]; rfl) (by simp (maxSteps := 3000000) [*]; rfl) (by simp (maxSteps := 3000000) [*]; rfl) hb76 (by apply c_impl_within <;> first | assumption | exact Hd.out (by assumption) | ((try (clear e0)); (try (clear e1)); (try (clear e2)); (try (clear e3)); (try (clear e4)); (try (clear e5)); (try (clear e6)); (try (clear e7)); (try (clear e8)); (try (clear e9)); (try (clear e10)); (try (clear e11)); omega)) ⟨by simp (maxSteps := 3000000) [*], by simp (maxSteps := 3000000) [*], by simp (maxSteps := 3000000) [*], by simp (maxSteps := 3000000) [*], by simp (maxSteps := 3000000) [*]⟩ (by simp (maxSteps := 3000000) [*]) (by simp (maxSteps := 3000000) [*]; rfl) ?_) | (refine OutOK.callF [] (by simp (maxSteps := 3000000) [*]; rfl) (by simp (maxSteps := 3000000) [*]; rfl) (by simp (maxSteps := 3000000) [*]; rfl) hb73 (by apply cc <;> first | assumption | exact Hd.out (by assumption) | ((try (clear e0)); (try (clear e1)); (try (clear e2)); (try (clear e3)); (try (clear e4)); (try (clear e5)); (try (clear e6)); (try (clear e7)); (try (clear e8)); (try (clear e9)); (try (clear e10)); (try (clear e11)); omega)) ⟨by simp (maxSteps := 3000000) [*], by simp (maxSteps := 3000000) [*], by simp (maxSteps := 3000000) [*], by simp (maxSteps := 3000000) [*], by simp (maxSteps := 3000000) [*]⟩ (by simp (maxSteps := 3000000) [*]) (by simp (maxSteps := 3000000) [*]; rfl) ?_) | (refine OutOK.callF [] (by simp (maxSteps := 3000000) [*]; rfl) (by simp (maxSteps := 3000000) [*]; rfl) (by simp (maxSteps := 3000000) [*]; rfl) hb72 (by apply cv <;> first | assumption | exact Hd.out (by assumption) | ((try (clear e0)); (try (clear e1)); (try (clear e2)); (try (clear e3)); (try (clear e4)); (try (clear e5)); (try (clear e6)); (try (clear e7)); (try (clear e8)); (try (clear e9)); (try (clear e10)); (try (clear e11)); omega)) ⟨by simp (maxSteps := 3000000) [*], by simp (maxSteps := 3000000) [*], by simp (maxSteps := 3000000) [*], by simp (maxSteps := 3000000) [*], by simp (maxSteps := 3000000) [*]⟩ (by simp (maxSteps := 3000000) [*]) (by simp (maxSteps := 3000000) [*]; rfl) ?_) | refine OutOK.run (by simp (maxSteps := 3000000) [*]; rfl) ?_ | refine AW.ret ?_ | refine AW.skip ?_ | refine AW.exit ?_ | refine fin_r ?_ | refine fin_n ?_ | refine AW.block ?_ | refine blockQ_n ?_ | refine blockQ_r ?_ | refine blockQ_e ?_ | refine blockQ_o rfl ?_)
    simp [Try.f74]
theorem s_app_3 (l : List Smp) (kd sm am : Int) (ho : ByteArray) (hgl : goodS l = true) (hh : ∀ s ∈ l, SmpW s) (hho : ho.size ≤ 9223372036854775807) (h1 : ¬ kd = 1) (hR : inR 1 l.length sm = true) (k : Nat) (hkl : k < l.length) (hk : sm = ((k + 1 : Nat) : Int)) (h2 : kd = 3) (ha : ¬ am = 0) (hA : inR 0 500 am = true) : ACall Try.prog 74 [.v (.sl true 8 (smps l)), stpD kd sm am ho] [.x, .x] [.v (.sl false 8 (smps (stepL l kd sm am ho))), boo (stepB l kd sm am ho)] := by
  obtain ⟨n1, hn1⟩ : ∃ n1, n1 = l.length + 1 := ⟨_, rfl⟩
  have h16 := (goodS_at hgl).1
  have e1 : wrap64 ((l.length : Int) + 1) = (n1 : Int) := by rw [w64 (by omega) (by omega)]; omega
  have b3 : (l.length + 1) * 72 ≤ 140737488355328 := by omega
  have b4 : l.length + 1 ≤ 4611686018427387904 := by omega
  have cc := c_slices_Clone_impl_Sample_impl_Sample l (by omega)
  have i0 : inR 0 500 0 = true := inR_iff.2 ⟨by omega, by omega⟩
  have hn1' : Hd _ := hn1
  clear hn1
  have e2 : wrap64 (sm - 1) = (k : Int) := by rw [w64 (by ((try (clear e0)); (try (clear e1)); (try (clear e2)); (try (clear e3)); (try (clear e4)); (try (clear e5)); (try (clear e6)); (try (clear e7)); (try (clear e8)); (try (clear e9)); (try (clear e10)); (try (clear e11)); omega)) (by ((try (clear e0)); (try (clear e1)); (try (clear e2)); (try (clear e3)); (try (clear e4)); (try (clear e5)); (try (clear e6)); (try (clear e7)); (try (clear e8)); (try (clear e9)); (try (clear e10)); (try (clear e11)); omega))]; ((try (clear e0)); (try (clear e1)); (try (clear e2)); (try (clear e3)); (try (clear e4)); (try (clear e5)); (try (clear e6)); (try (clear e7)); (try (clear e8)); (try (clear e9)); (try (clear e10)); (try (clear e11)); omega)
  have hf : SmpF l[k] k := (good_x hgl hh hkl).2.1
  have hid : l[k].id = sm := by rw [hf.id, hk]
  have hk' : Hd _ := hk
  have hxw := hh l[k] (List.getElem_mem hkl)
  subst h2
  obtain ⟨hb, hl⟩ := step_3 (ho := ho) (fun _ => hf) hk hkl hA ha
  rw [hid, ← hn1'.out] at hb hl
  have hmw : ∀ s ∈ l.set k ⟨sm, l[k].par, l[k].ctx, l[k].tak, wrap64 (l[k].lef - am), l[k].usd, wrap64 (l[k].giv + am), l[k].hol⟩ ++ [(⟨n1, sm, l[k].ctx, am, am, 0, 0, ho⟩ : Smp)], SmpW s := W_app (W_set hh ⟨hxw.1, w64_in _⟩) ⟨hho, by simp, by simp⟩
  have cv := c_impl_IsValidSamples _ (by simp; omega) hmw
  have hm : stepL l 3 sm am ho = if goodS (l.set k ⟨sm, l[k].par, l[k].ctx, l[k].tak, wrap64 (l[k].lef - am), l[k].usd, wrap64 (l[k].giv + am), l[k].hol⟩ ++ [(⟨n1, sm, l[k].ctx, am, am, 0, 0, ho⟩ : Smp)]) = true then l.set k ⟨sm, l[k].par, l[k].ctx, l[k].tak, wrap64 (l[k].lef - am), l[k].usd, wrap64 (l[k].giv + am), l[k].hol⟩ ++ [(⟨n1, sm, l[k].ctx, am, am, 0, 0, ho⟩ : Smp)] else [] := by
    split
    · rename_i e; exact hl e
    · rename_i e; have : stepB l 3 sm am ho = false := by rw [hb]; simpa using e
      simp [stepL, this]
  rw [hm, hb]
  cases hgb : goodS (l.set k ⟨sm, l[k].par, l[k].ctx, l[k].tak, wrap64 (l[k].lef - am), l[k].usd, wrap64 (l[k].giv + am), l[k].hol⟩ ++ [(⟨n1, sm, l[k].ctx, am, am, 0, 0, ho⟩ : Smp)]) <;> rw [hgb] at cv
  · clear hm hb hl hgb hmw hgl hh hk hf hxw h1
    refine ACall.of (N := 140) tok Try.func74 rfl rfl rfl (by simp) ?_
    repeat' (first | with_reducible refine OutOK.done ?_ | refine thenQ_n ?_ | refine thenQ_r ?_ | refine thenQ_e ?_ | refine AW.seq ?_ | refine AW.dreg tok mixed [5]  [(0, false), (1, false), (2, false), (4, false), (3, false), (5, true), (6, false), (7, false), (8, false), (9, false)] (by decide +kernel) rfl (by simp (maxSteps := 3000000) [*]; rfl) ?_ | refine AW.dreg tok mixed [5]  [(0, false), (1, false), (2, false), (4, false), (3, false), (5, true), (6, false), (7, false), (8, false), (9, false)] (by decide +kernel) rfl (by simp (maxSteps := 3000000) [*]; rfl) ?_ | refine AW.dreg tok mixed [9, 11, 13, 15]  [(0, false), (1, false), (2, false), (3, false), (4, false), (6, false), (7, false), (8, false), (10, false), (12, false), (14, false), (5, false), (9, true), (11, true), (13, true), (15, true), (16, false), (17, false), (18, false), (19, false)] (by decide +kernel) rfl (by simp (maxSteps := 3000000) [*]; rfl) ?_ | refine AW.dreg tok mixed [8]  [(0, false), (1, false), (7, false), (2, false), (3, false), (4, false), (5, false), (6, false), (8, true), (9, false), (10, false), (11, false), (12, false)] (by decide +kernel) rfl (by simp (maxSteps := 3000000) [*]; rfl) ?_ | refine AW.dreg tok mixed [8]  [(0, false), (1, false), (7, false), (2, false), (3, false), (4, false), (5, false), (6, false), (8, true), (9, false), (10, false), (11, false), (12, false)] (by decide +kernel) rfl (by simp (maxSteps := 3000000) [*]; rfl) ?_ | refine AW.reg tok (by simp (maxSteps := 3000000) [*]; rfl) ?_ | refine AW.ifB (by simp (maxSteps := 3000000) [*]; rfl) ?_ | refine IfG.t ?_ | refine IfG.f ?_ | (refine IfG.p (fun hg => ?_) (fun hg => ?_) <;> (try (have hg' := hg; simp at hg'))) | (refine IfG.n (fun hg => ?_) (fun hg => ?_) <;> (try (have hg' := hg; simp at hg'))) | (refine OutOK.gateP (fun hg => ?_) (fun hg => ?_) <;> (try (have hg' := hg; simp at hg'))) | (refine OutOK.gateN (fun hg => ?_) (fun hg => ?_) <;> (try (have hg' := hg; simp at hg'))) | (refine IfG.g (fun hg => ?_) (fun hg => ?_) <;> (try (have hg' := hg; simp at hg'))) | (refine OutOK.gate (fun hg => ?_) (fun hg => ?_) <;> (try (have hg' := hg; simp at hg'))) | (refine OutOK.callF [] (by simp (maxSteps := 3000000) [*]; rfl) (by simp (maxSteps := 3000000) [*]; rfl) (by simp (maxSteps := 3000000) [*]; rfl) hb76 (by apply c_impl_within <;> first | assumption | exact Hd.out (by assumption) | ((try (clear e0)); (try (clear e1)); (try (clear e2)); (try (clear e3)); (try (clear e4)); (try (clear e5)); (try (clear e6)); (try (clear e7)); (try (clear e8)); (try (clear e9)); (try (clear e10)); (try (clear e11)); omega)) ⟨by simp (maxSteps := 3000000) [*], by simp (maxSteps := 3000000) [*], by simp (maxSteps := 3000000) [*], by simp (maxSteps := 3000000) [*], by simp (maxSteps := 3000000) [*]⟩ (by simp (maxSteps := 3000000) [*]) (by simp (maxSteps := 3000000) [*]; rfl) ?_) | (refine OutOK.callF [] (by simp (maxSteps := 3000000) [*]; rfl) (by simp (maxSteps := 3000000) [*]; rfl) (by simp (maxSteps := 3000000) [*]; rfl) hb73 (by apply cc <;> first | assumption | exact Hd.out (by assumption) | ((try (clear e0)); (try (clear e1)); (try (clear e2)); (try (clear e3)); (try (clear e4)); (try (clear e5)); (try (clear e6)); (try (clear e7)); (try (clear e8)); (try (clear e9)); (try (clear e10)); (try (clear e11)); omega)) ⟨by simp (maxSteps := 3000000) [*], by simp (maxSteps := 3000000) [*], by simp (maxSteps := 3000000) [*], by simp (maxSteps := 3000000) [*], by simp (maxSteps := 3000000) [*]⟩ (by simp (maxSteps := 3000000) [*]) (by simp (maxSteps := 3000000) [*]; rfl) ?_) | (refine OutOK.callF [] (by simp (maxSteps := 3000000) [*]; rfl) (by simp (maxSteps := 3000000) [*]; rfl) (by simp (maxSteps := 3000000) [*]; rfl) hb72 (by apply cv <;> first | assumption | exact Hd.out (by assumption) | ((try (clear e0)); (try (clear e1)); (try (clear e2)); (try (clear e3)); (try (clear e4)); (try (clear e5)); (try (clear e6)); (try (clear e7)); (try (clear e8)); (try (clear e9)); (try (clear e10)); (try (clear e11)); omega)) ⟨by simp (maxSteps := 3000000) [*], by simp (maxSteps := 3000000) [*], by simp (maxSteps := 3000000) [*], by simp (maxSteps := 3000000) [*], by simp (maxSteps := 3000000) [*]⟩ (by simp (maxSteps := 3000000) [*]) (by simp (maxSteps := 3000000) [*]; rfl) ?_) | refine OutOK.run (by simp (maxSteps := 3000000) [*]; rfl) ?_ | refine AW.ret ?_ | refine AW.skip ?_ | refine AW.exit ?_ | refine fin_r ?_ | refine fin_n ?_ | refine AW.block ?_ | refine blockQ_n ?_ | refine blockQ_r ?_ | refine blockQ_e ?_ | refine blockQ_o rfl ?_)
    simp [Try.f74, smps]
  · clear hm hb hl hgb hmw hgl hh hk hf hxw h1
    refine ACall.of (N := 140) tok Try.func74 rfl rfl rfl (by simp) ?_
    repeat' (first | with_reducible refine OutOK.done ?_ | refine thenQ_n ?_ | refine thenQ_r ?_ | refine thenQ_e ?_ | refine AW.seq ?_ | refine AW.dreg tok mixed [5]  [(0, false), (1, false), (2, false), (4, false), (3, false), (5, true), (6, false), (7, false), (8, false), (9, false)] (by decide +kernel) rfl (by simp (maxSteps := 3000000) [*]; rfl) ?_ | refine AW.dreg tok mixed [5]  [(0, false), (1, false), (2, false), (4, false), (3, false), (5, true), (6, false), (7, false), (8, false), (9, false)] (by decide +kernel) rfl (by simp (maxSteps := 3000000) [*]; rfl) ?_ | refine AW.dreg tok mixed [9, 11, 13, 15]  [(0, false), (1, false), (2, false), (3, false), (4, false), (6, false), (7, false), (8, false), (10, false), (12, false), (14, false), (5, false), (9, true), (11, true), (13, true), (15, true), (16, false), (17, false), (18, false), (19, false)] (by decide +kernel) rfl (by simp (maxSteps := 3000000) [*]; rfl) ?_ | refine AW.dreg tok mixed [8]  [(0, false), (1, false), (7, false), (2, false), (3, false), (4, false), (5, false), (6, false), (8, true), (9, false), (10, false), (11, false), (12, false)] (by decide +kernel) rfl (by simp (maxSteps := 3000000) [*]; rfl) ?_ | refine AW.dreg tok mixed [8]  [(0, false), (1, false), (7, false), (2, false), (3, false), (4, false), (5, false), (6, false), (8, true), (9, false), (10, false), (11, false), (12, false)] (by decide +kernel) rfl (by simp (maxSteps := 3000000) [*]; rfl) ?_ | refine AW.reg tok (by simp (maxSteps := 3000000) [*]; rfl) ?_ | refine AW.ifB (by simp (maxSteps := 3000000) [*]; rfl) ?_ | refine IfG.t ?_ | refine IfG.f ?_ | (refine IfG.p (fun hg => ?_) (fun hg => ?_) <;> (try (have hg' := hg; simp at hg'))) | (refine IfG.n (fun hg => ?_) (fun hg => ?_) <;> (try (have hg' := hg; simp at hg'))) | (refine OutOK.gateP (fun hg => ?_) (fun hg => ?_) <;> (try (have hg' := hg; simp at hg'))) | (refine OutOK.gateN (fun hg => ?_) (fun hg => ?_) <;> (try (have hg' := hg; simp at hg'))) | (refine IfG.g (fun hg => ?_) (fun hg => ?_) <;> (try (have hg' := hg; simp at hg'))) | (refine OutOK.gate (fun hg => ?_) (fun hg => ?_) <;> (try (have hg' := hg; simp at hg'))) | (refine OutOK.callF [] (by simp (maxSteps := 3000000) [*]; rfl) (by simp (maxSteps := 3000000) [*]; rfl) (by simp (maxSteps := 3000000) [*]; rfl) hb76 (by apply c_impl_within <;> first | assumption | exact Hd.out (by assumption) | ((try (clear e0)); (try (clear e1)); (try (clear e2)); (try (clear e3)); (try (clear e4)); (try (clear e5)); (try (clear e6)); (try (clear e7)); (try (clear e8)); (try (clear e9)); (try (clear e10)); (try (clear e11)); omega)) ⟨by simp (maxSteps := 3000000) [*], by simp (maxSteps := 3000000) [*], by simp (maxSteps := 3000000) [*], by simp (maxSteps := 3000000) [*], by simp (maxSteps := 3000000) [*]⟩ (by simp (maxSteps := 3000000) [*]) (by simp (maxSteps := 3000000) [*]; rfl) ?_) | (refine OutOK.callF [] (by simp (maxSteps := 3000000) [*]; rfl) (by simp (maxSteps := 3000000) [*]; rfl) (by simp (maxSteps := 3000000) [*]; rfl) hb73 (by apply cc <;> first | assumption | exact Hd.out (by assumption) | ((try (clear e0)); (try (clear e1)); (try (clear e2)); (try (clear e3)); (try (clear e4)); (try (clear e5)); (try (clear e6)); (try (clear e7)); (try (clear e8)); (try (clear e9)); (try (clear e10)); (try (clear e11)); omega)) ⟨by simp (maxSteps := 3000000) [*], by simp (maxSteps := 3000000) [*], by simp (maxSteps := 3000000) [*], by simp (maxSteps := 3000000) [*], by simp (maxSteps := 3000000) [*]⟩ (by simp (maxSteps := 3000000) [*]) (by simp (maxSteps := 3000000) [*]; rfl) ?_) | (refine OutOK.callF [] (by simp (maxSteps := 3000000) [*]; rfl) (by simp (maxSteps := 3000000) [*]; rfl) (by simp (maxSteps := 3000000) [*]; rfl) hb72 (by apply cv <;> first | assumption | exact Hd.out (by assumption) | ((try (clear e0)); (try (clear e1)); (try (clear e2)); (try (clear e3)); (try (clear e4)); (try (clear e5)); (try (clear e6)); (try (clear e7)); (try (clear e8)); (try (clear e9)); (try (clear e10)); (try (clear e11)); omega)) ⟨by simp (maxSteps := 3000000) [*], by simp (maxSteps := 3000000) [*], by simp (maxSteps := 3000000) [*], by simp (maxSteps := 3000000) [*], by simp (maxSteps := 3000000) [*]⟩ (by simp (maxSteps := 3000000) [*]) (by simp (maxSteps := 3000000) [*]; rfl) ?_) | refine OutOK.run (by simp (maxSteps := 3000000) [*]; rfl) ?_ | refine AW.ret ?_ | refine AW.skip ?_ | refine AW.exit ?_ | refine fin_r ?_ | refine fin_n ?_ | refine AW.block ?_ | refine blockQ_n ?_ | refine blockQ_r ?_ | refine blockQ_e ?_ | refine blockQ_o rfl ?_)
    simp [Try.f74]
theorem s_app_4 (l : List Smp) (kd sm am : Int) (ho : ByteArray) (hgl : goodS l = true) (hh : ∀ s ∈ l, SmpW s) (hho : ho.size ≤ 9223372036854775807) (h1 : ¬ kd = 1) (hR : inR 1 l.length sm = true) (k : Nat) (hkl : k < l.length) (hk : sm = ((k + 1 : Nat) : Int)) (h2 : kd = 4) (ha : ¬ am = 0) (hA : inR 0 500 am = true) (h5 : ho.toList = []) : ACall Try.prog 74 [.v (.sl true 8 (smps l)), stpD kd sm am ho] [.x, .x] [.v (.sl false 8 (smps (stepL l kd sm am ho))), boo (stepB l kd sm am ho)] := by
  obtain ⟨n1, hn1⟩ : ∃ n1, n1 = l.length + 1 := ⟨_, rfl⟩
  have h16 := (goodS_at hgl).1
  have e1 : wrap64 ((l.length : Int) + 1) = (n1 : Int) := by rw [w64 (by omega) (by omega)]; omega
  have b3 : (l.length + 1) * 72 ≤ 140737488355328 := by omega
  have b4 : l.length + 1 ≤ 4611686018427387904 := by omega
  have cc := c_slices_Clone_impl_Sample_impl_Sample l (by omega)
  have i0 : inR 0 500 0 = true := inR_iff.2 ⟨by omega, by omega⟩
  have hn1' : Hd _ := hn1
  clear hn1
  have e2 : wrap64 (sm - 1) = (k : Int) := by rw [w64 (by ((try (clear e0)); (try (clear e1)); (try (clear e2)); (try (clear e3)); (try (clear e4)); (try (clear e5)); (try (clear e6)); (try (clear e7)); (try (clear e8)); (try (clear e9)); (try (clear e10)); (try (clear e11)); omega)) (by ((try (clear e0)); (try (clear e1)); (try (clear e2)); (try (clear e3)); (try (clear e4)); (try (clear e5)); (try (clear e6)); (try (clear e7)); (try (clear e8)); (try (clear e9)); (try (clear e10)); (try (clear e11)); omega))]; ((try (clear e0)); (try (clear e1)); (try (clear e2)); (try (clear e3)); (try (clear e4)); (try (clear e5)); (try (clear e6)); (try (clear e7)); (try (clear e8)); (try (clear e9)); (try (clear e10)); (try (clear e11)); omega)
  have hf : SmpF l[k] k := (good_x hgl hh hkl).2.1
  have hid : l[k].id = sm := by rw [hf.id, hk]
  have hk' : Hd _ := hk
  have hxw := hh l[k] (List.getElem_mem hkl)
  subst h2
  obtain ⟨hb, hl⟩ := step_4 (fun _ => hf) hk hkl hA ha h5
  have hmw : ∀ s ∈ l.set k ⟨l[k].id, l[k].par, l[k].ctx, l[k].tak, wrap64 (l[k].lef - am), wrap64 (l[k].usd + am), l[k].giv, l[k].hol⟩, SmpW s := W_set hh ⟨hxw.1, hxw.2⟩
  have cv := c_impl_IsValidSamples _ (by simp; omega) hmw
  have hm : stepL l 4 sm am ho = if goodS (l.set k ⟨l[k].id, l[k].par, l[k].ctx, l[k].tak, wrap64 (l[k].lef - am), wrap64 (l[k].usd + am), l[k].giv, l[k].hol⟩) = true then l.set k ⟨l[k].id, l[k].par, l[k].ctx, l[k].tak, wrap64 (l[k].lef - am), wrap64 (l[k].usd + am), l[k].giv, l[k].hol⟩ else [] := by
    split
    · rename_i e; exact hl e
    · rename_i e; have : stepB l 4 sm am ho = false := by rw [hb]; simpa using e
      simp [stepL, this]
  rw [hm, hb]
  cases hgb : goodS (l.set k ⟨l[k].id, l[k].par, l[k].ctx, l[k].tak, wrap64 (l[k].lef - am), wrap64 (l[k].usd + am), l[k].giv, l[k].hol⟩) <;> rw [hgb] at cv
  · clear hm hb hl hgb hmw hgl hh hk hid hf hxw h1
    refine ACall.of (N := 140) tok Try.func74 rfl rfl rfl (by simp) ?_
    repeat' (first | with_reducible refine OutOK.done ?_ | refine thenQ_n ?_ | refine thenQ_r ?_ | refine thenQ_e ?_ | refine AW.seq ?_ | refine AW.dreg tok mixed [5]  [(0, false), (1, false), (2, false), (4, false), (3, false), (5, true), (6, false), (7, false), (8, false), (9, false)] (by decide +kernel) rfl (by simp (maxSteps := 3000000) [*]; rfl) ?_ | refine AW.dreg tok mixed [5]  [(0, false), (1, false), (2, false), (4, false), (3, false), (5, true), (6, false), (7, false), (8, false), (9, false)] (by decide +kernel) rfl (by simp (maxSteps := 3000000) [*]; rfl) ?_ | refine AW.dreg tok mixed [9, 11, 13, 15]  [(0, false), (1, false), (2, false), (3, false), (4, false), (6, false), (7, false), (8, false), (10, false), (12, false), (14, false), (5, false), (9, true), (11, true), (13, true), (15, true), (16, false), (17, false), (18, false), (19, false)] (by decide +kernel) rfl (by simp (maxSteps := 3000000) [*]; rfl) ?_ | refine AW.dreg tok mixed [8]  [(0, false), (1, false), (7, false), (2, false), (3, false), (4, false), (5, false), (6, false), (8, true), (9, false), (10, false), (11, false), (12, false)] (by decide +kernel) rfl (by simp (maxSteps := 3000000) [*]; rfl) ?_ | refine AW.dreg tok mixed [8]  [(0, false), (1, false), (7, false), (2, false), (3, false), (4, false), (5, false), (6, false), (8, true), (9, false), (10, false), (11, false), (12, false)] (by decide +kernel) rfl (by simp (maxSteps := 3000000) [*]; rfl) ?_ | refine AW.reg tok (by simp (maxSteps := 3000000) [*]; rfl) ?_ | refine AW.ifB (by simp (maxSteps := 3000000) [*]; rfl) ?_ | refine IfG.t ?_ | refine IfG.f ?_ | (refine IfG.p (fun hg => ?_) (fun hg => ?_) <;> (try (have hg' := hg; simp at hg'))) | (refine IfG.n (fun hg => ?_) (fun hg => ?_) <;> (try (have hg' := hg; simp at hg'))) | (refine OutOK.gateP (fun hg => ?_) (fun hg => ?_) <;> (try (have hg' := hg; simp at hg'))) | (refine OutOK.gateN (fun hg => ?_) (fun hg => ?_) <;> (try (have hg' := hg; simp at hg'))) | (refine IfG.g (fun hg => ?_) (fun hg => ?_) <;> (try (have hg' := hg; simp at hg'))) | (refine OutOK.gate (fun hg => ?_) (fun hg => ?_) <;> (try (have hg' := hg; simp at hg'))) | (refine OutOK.callF [] (by simp (maxSteps := 3000000) [*]; rfl) (by simp (maxSteps := 3000000) [*]; rfl) (by simp (maxSteps := 3000000) [*]; rfl) hb76 (by apply c_impl_within <;> first | assumption | exact Hd.out (by assumption) | ((try (clear e0)); (try (clear e1)); (try (clear e2)); (try (clear e3)); (try (clear e4)); (try (clear e5)); (try (clear e6)); (try (clear e7)); (try (clear e8)); (try (clear e9)); (try (clear e10)); (try (clear e11)); omega)) ⟨by simp (maxSteps := 3000000) [*], by simp (maxSteps := 3000000) [*], by simp (maxSteps := 3000000) [*], by simp (maxSteps := 3000000) [*], by simp (maxSteps := 3000000) [*]⟩ (by simp (maxSteps := 3000000) [*]) (by simp (maxSteps := 3000000) [*]; rfl) ?_) | (refine OutOK.callF [] (by simp (maxSteps := 3000000) [*]; rfl) (by simp (maxSteps := 3000000) [*]; rfl) (by simp (maxSteps := 3000000) [*]; rfl) hb73 (by apply cc <;> first | assumption | exact Hd.out (by assumption) | ((try (clear e0)); (try (clear e1)); (try (clear e2)); (try (clear e3)); (try (clear e4)); (try (clear e5)); (try (clear e6)); (try (clear e7)); (try (clear e8)); (try (clear e9)); (try (clear e10)); (try (clear e11)); omega)) ⟨by simp (maxSteps := 3000000) [*], by simp (maxSteps := 3000000) [*], by simp (maxSteps := 3000000) [*], by simp (maxSteps := 3000000) [*], by simp (maxSteps := 3000000) [*]⟩ (by simp (maxSteps := 3000000) [*]) (by simp (maxSteps := 3000000) [*]; rfl) ?_) | (refine OutOK.callF [] (by simp (maxSteps := 3000000) [*]; rfl) (by simp (maxSteps := 3000000) [*]; rfl) (by simp (maxSteps := 3000000) [*]; rfl) hb72 (by apply cv <;> first | assumption | exact Hd.out (by assumption) | ((try (clear e0)); (try (clear e1)); (try (clear e2)); (try (clear e3)); (try (clear e4)); (try (clear e5)); (try (clear e6)); (try (clear e7)); (try (clear e8)); (try (clear e9)); (try (clear e10)); (try (clear e11)); omega)) ⟨by simp (maxSteps := 3000000) [*], by simp (maxSteps := 3000000) [*], by simp (maxSteps := 3000000) [*], by simp (maxSteps := 3000000) [*], by simp (maxSteps := 3000000) [*]⟩ (by simp (maxSteps := 3000000) [*]) (by simp (maxSteps := 3000000) [*]; rfl) ?_) | refine OutOK.run (by simp (maxSteps := 3000000) [*]; rfl) ?_ | refine AW.ret ?_ | refine AW.skip ?_ | refine AW.exit ?_ | refine fin_r ?_ | refine fin_n ?_ | refine AW.block ?_ | refine blockQ_n ?_ | refine blockQ_r ?_ | refine blockQ_e ?_ | refine blockQ_o rfl ?_)
    simp [Try.f74, smps]
  · clear hm hb hl hgb hmw hgl hh hk hid hf hxw h1
    refine ACall.of (N := 140) tok Try.func74 rfl rfl rfl (by simp) ?_
    repeat' (first | with_reducible refine OutOK.done ?_ | refine thenQ_n ?_ | refine thenQ_r ?_ | refine thenQ_e ?_ | refine AW.seq ?_ | refine AW.dreg tok mixed [5]  [(0, false), (1, false), (2, false), (4, false), (3, false), (5, true), (6, false), (7, false), (8, false), (9, false)] (by decide +kernel) rfl (by simp (maxSteps := 3000000) [*]; rfl) ?_ | refine AW.dreg tok mixed [5]  [(0, false), (1, false), (2, false), (4, false), (3, false), (5, true), (6, false), (7, false), (8, false), (9, false)] (by decide +kernel) rfl (by simp (maxSteps := 3000000) [*]; rfl) ?_ | refine AW.dreg tok mixed [9, 11, 13, 15]  [(0, false), (1, false), (2, false), (3, false), (4, false), (6, false), (7, false), (8, false), (10, false), (12, false), (14, false), (5, false), (9, true), (11, true), (13, true), (15, true), (16, false), (17, false), (18, false), (19, false)] (by decide +kernel) rfl (by simp (maxSteps := 3000000) [*]; rfl) ?_ | refine AW.dreg tok mixed [8]  [(0, false), (1, false), (7, false), (2, false), (3, false), (4, false), (5, false), (6, false), (8, true), (9, false), (10, false), (11, false), (12, false)] (by decide +kernel) rfl (by simp (maxSteps := 3000000) [*]; rfl) ?_ | refine AW.dreg tok mixed [8]  [(0, false), (1, false), (7, false), (2, false), (3, false), (4, false), (5, false), (6, false), (8, true), (9, false), (10, false), (11, false), (12, false)] (by decide +kernel) rfl (by simp (maxSteps := 3000000) [*]; rfl) ?_ | refine AW.reg tok (by simp (maxSteps := 3000000) [*]; rfl) ?_ | refine AW.ifB (by simp (maxSteps := 3000000) [*]; rfl) ?_ | refine IfG.t ?_ | refine IfG.f ?_ | (refine IfG.p (fun hg => ?_) (fun hg => ?_) <;> (try (have hg' := hg; simp at hg'))) | (refine IfG.n (fun hg => ?_) (fun hg => ?_) <;> (try (have hg' := hg; simp at hg'))) | (refine OutOK.gateP (fun hg => ?_) (fun hg => ?_) <;> (try (have hg' := hg; simp at hg'))) | (refine OutOK.gateN (fun hg => ?_) (fun hg => ?_) <;> (try (have hg' := hg; simp at hg'))) | (refine IfG.g (fun hg => ?_) (fun hg => ?_) <;> (try (have hg' := hg; simp at hg'))) | (refine OutOK.gate (fun hg => ?_) (fun hg => ?_) <;> (try (have hg' := hg; simp at hg'))) | (refine OutOK.callF [] (by simp (maxSteps := 3000000) [*]; rfl) (by simp (maxSteps := 3000000) [*]; rfl) (by simp (maxSteps := 3000000) [*]; rfl) hb76 (by apply c_impl_within <;> first | assumption | exact Hd.out (by assumption) | ((try (clear e0)); (try (clear e1)); (try (clear e2)); (try (clear e3)); (try (clear e4)); (try (clear e5)); (try (clear e6)); (try (clear e7)); (try (clear e8)); (try (clear e9)); (try (clear e10)); (try (clear e11)); omega)) ⟨by simp (maxSteps := 3000000) [*], by simp (maxSteps := 3000000) [*], by simp (maxSteps := 3000000) [*], by simp (maxSteps := 3000000) [*], by simp (maxSteps := 3000000) [*]⟩ (by simp (maxSteps := 3000000) [*]) (by simp (maxSteps := 3000000) [*]; rfl) ?_) | (refine OutOK.callF [] (by simp (maxSteps := 3000000) [*]; rfl) (by simp (maxSteps := 3000000) [*]; rfl) (by simp (maxSteps := 3000000) [*]; rfl) hb73 (by apply cc <;> first | assumption | exact Hd.out (by assumption) | ((try (clear e0)); (try (clear e1)); (try (clear e2)); (try (clear e3)); (try (clear e4)); (try (clear e5)); (try (clear e6)); (try (clear e7)); (try (clear e8)); (try (clear e9)); (try (clear e10)); (try (clear e11)); omega)) ⟨by simp (maxSteps := 3000000) [*], by simp (maxSteps := 3000000) [*], by simp (maxSteps := 3000000) [*], by simp (maxSteps := 3000000) [*], by simp (maxSteps := 3000000) [*]⟩ (by simp (maxSteps := 3000000) [*]) (by simp (maxSteps := 3000000) [*]; rfl) ?_) | (refine OutOK.callF [] (by simp (maxSteps := 3000000) [*]; rfl) (by simp (maxSteps := 3000000) [*]; rfl) (by simp (maxSteps := 3000000) [*]; rfl) hb72 (by apply cv <;> first | assumption | exact Hd.out (by assumption) | ((try (clear e0)); (try (clear e1)); (try (clear e2)); (try (clear e3)); (try (clear e4)); (try (clear e5)); (try (clear e6)); (try (clear e7)); (try (clear e8)); (try (clear e9)); (try (clear e10)); (try (clear e11)); omega)) ⟨by simp (maxSteps := 3000000) [*], by simp (maxSteps := 3000000) [*], by simp (maxSteps := 3000000) [*], by simp (maxSteps := 3000000) [*], by simp (maxSteps := 3000000) [*]⟩ (by simp (maxSteps := 3000000) [*]) (by simp (maxSteps := 3000000) [*]; rfl) ?_) | refine OutOK.run (by simp (maxSteps := 3000000) [*]; rfl) ?_ | refine AW.ret ?_ | refine AW.skip ?_ | refine AW.exit ?_ | refine fin_r ?_ | refine fin_n ?_ | refine AW.block ?_ | refine blockQ_n ?_ | refine blockQ_r ?_ | refine blockQ_e ?_ | refine blockQ_o rfl ?_)
    simp [Try.f74]
theorem s_app_4n (l : List Smp) (kd sm am : Int) (ho : ByteArray) (hgl : goodS l = true) (hh : ∀ s ∈ l, SmpW s) (hho : ho.size ≤ 9223372036854775807) (h1 : ¬ kd = 1) (hR : inR 1 l.length sm = true) (k : Nat) (hkl : k < l.length) (hk : sm = ((k + 1 : Nat) : Int)) (h2 : kd = 4) (ha : ¬ am = 0) (hA : inR 0 500 am = true) (h5 : ¬ ho.toList = []) : ACall Try.prog 74 [.v (.sl true 8 (smps l)), stpD kd sm am ho] [.x, .x] [.v (.sl false 8 (smps (stepL l kd sm am ho))), boo (stepB l kd sm am ho)] := by
  obtain ⟨n1, hn1⟩ : ∃ n1, n1 = l.length + 1 := ⟨_, rfl⟩
  have h16 := (goodS_at hgl).1
  have e1 : wrap64 ((l.length : Int) + 1) = (n1 : Int) := by rw [w64 (by omega) (by omega)]; omega
  have b3 : (l.length + 1) * 72 ≤ 140737488355328 := by omega
  have b4 : l.length + 1 ≤ 4611686018427387904 := by omega
  have cc := c_slices_Clone_impl_Sample_impl_Sample l (by omega)
  have i0 : inR 0 500 0 = true := inR_iff.2 ⟨by omega, by omega⟩
  have hn1' : Hd _ := hn1
  clear hn1
  have e2 : wrap64 (sm - 1) = (k : Int) := by rw [w64 (by ((try (clear e0)); (try (clear e1)); (try (clear e2)); (try (clear e3)); (try (clear e4)); (try (clear e5)); (try (clear e6)); (try (clear e7)); (try (clear e8)); (try (clear e9)); (try (clear e10)); (try (clear e11)); omega)) (by ((try (clear e0)); (try (clear e1)); (try (clear e2)); (try (clear e3)); (try (clear e4)); (try (clear e5)); (try (clear e6)); (try (clear e7)); (try (clear e8)); (try (clear e9)); (try (clear e10)); (try (clear e11)); omega))]; ((try (clear e0)); (try (clear e1)); (try (clear e2)); (try (clear e3)); (try (clear e4)); (try (clear e5)); (try (clear e6)); (try (clear e7)); (try (clear e8)); (try (clear e9)); (try (clear e10)); (try (clear e11)); omega)
  have hf : SmpF l[k] k := (good_x hgl hh hkl).2.1
  have hid : l[k].id = sm := by rw [hf.id, hk]
  have hk' : Hd _ := hk
  have hxw := hh l[k] (List.getElem_mem hkl)
  have hb := step_none (show stepR l kd sm am ho = none by rw [step_at h1 hk hkl, if_neg (by simp [h2]), if_neg (by simp [h2]), if_neg (by simp [h5])])
  subst h2
  rw [show stepL l 4 sm am ho = [] by simp [stepL, hb], hb]
  clear hb hgl hh hk hid hf hxw h1
  refine ACall.of (N := 140) tok Try.func74 rfl rfl rfl (by simp) ?_
  repeat' (first | with_reducible refine OutOK.done ?_ | refine thenQ_n ?_ | refine thenQ_r ?_ | refine thenQ_e ?_ | refine AW.seq ?_ | refine AW.dreg tok mixed [5]  [(0, false), (1, false), (2, false), (4, false), (3, false), (5, true), (6, false), (7, false), (8, false), (9, false)] (by decide +kernel) rfl (by simp [*]; rfl) ?_ | refine AW.dreg tok mixed [5]  [(0, false), (1, false), (2, false), (4, false), (3, false), (5, true), (6, false), (7, false), (8, false), (9, false)] (by decide +kernel) rfl (by simp [*]; rfl) ?_ | refine AW.dreg tok mixed [9, 11, 13, 15]  [(0, false), (1, false), (2, false), (3, false), (4, false), (6, false), (7, false), (8, false), (10, false), (12, false), (14, false), (5, false), (9, true), (11, true), (13, true), (15, true), (16, false), (17, false), (18, false), (19, false)] (by decide +kernel) rfl (by simp [*]; rfl) ?_ | refine AW.dreg tok mixed [8]  [(0, false), (1, false), (7, false), (2, false), (3, false), (4, false), (5, false), (6, false), (8, true), (9, false), (10, false), (11, false), (12, false)] (by decide +kernel) rfl (by simp [*]; rfl) ?_ | refine AW.dreg tok mixed [8]  [(0, false), (1, false), (7, false), (2, false), (3, false), (4, false), (5, false), (6, false), (8, true), (9, false), (10, false), (11, false), (12, false)] (by decide +kernel) rfl (by simp [*]; rfl) ?_ | refine AW.reg tok (by simp [*]; rfl) ?_ | refine AW.ifB (by simp [*]; rfl) ?_ | refine IfG.t ?_ | refine IfG.f ?_ | (refine IfG.p (fun hg => ?_) (fun hg => ?_) <;> (try (have hg' := hg; simp at hg'))) | (refine IfG.n (fun hg => ?_) (fun hg => ?_) <;> (try (have hg' := hg; simp at hg'))) | (refine OutOK.gateP (fun hg => ?_) (fun hg => ?_) <;> (try (have hg' := hg; simp at hg'))) | (refine OutOK.gateN (fun hg => ?_) (fun hg => ?_) <;> (try (have hg' := hg; simp at hg'))) | (refine IfG.g (fun hg => ?_) (fun hg => ?_) <;> (try (have hg' := hg; simp at hg'))) | (refine OutOK.gate (fun hg => ?_) (fun hg => ?_) <;> (try (have hg' := hg; simp at hg'))) | (refine OutOK.callF [] (by simp [*]; rfl) (by simp [*]; rfl) (by simp [*]; rfl) hb76 (by apply c_impl_within <;> first | assumption | exact Hd.out (by assumption) | ((try (clear e0)); (try (clear e1)); (try (clear e2)); (try (clear e3)); (try (clear e4)); (try (clear e5)); (try (clear e6)); (try (clear e7)); (try (clear e8)); (try (clear e9)); (try (clear e10)); (try (clear e11)); omega)) ⟨by simp [*], by simp [*], by simp [*], by simp [*], by simp [*]⟩ (by simp [*]) (by simp [*]; rfl) ?_) | (refine OutOK.callF [] (by simp [*]; rfl) (by simp [*]; rfl) (by simp [*]; rfl) hb73 (by apply cc <;> first | assumption | exact Hd.out (by assumption) | ((try (clear e0)); (try (clear e1)); (try (clear e2)); (try (clear e3)); (try (clear e4)); (try (clear e5)); (try (clear e6)); (try (clear e7)); (try (clear e8)); (try (clear e9)); (try (clear e10)); (try (clear e11)); omega)) ⟨by simp [*], by simp [*], by simp [*], by simp [*], by simp [*]⟩ (by simp [*]) (by simp [*]; rfl) ?_) | refine OutOK.run (by simp [*]; rfl) ?_ | refine AW.ret ?_ | refine AW.skip ?_ | refine AW.exit ?_ | refine fin_r ?_ | refine fin_n ?_ | refine AW.block ?_ | refine blockQ_n ?_ | refine blockQ_r ?_ | refine blockQ_e ?_ | refine blockQ_o rfl ?_)
  simp [Try.f74, smps]
theorem s_app_n (l : List Smp) (kd sm am : Int) (ho : ByteArray) (hgl : goodS l = true) (hh : ∀ s ∈ l, SmpW s) (hho : ho.size ≤ 9223372036854775807) (h1 : ¬ kd = 1) (hR : inR 1 l.length sm = true) (k : Nat) (hkl : k < l.length) (hk : sm = ((k + 1 : Nat) : Int)) (h2 : ¬ kd = 2) (h3 : ¬ kd = 3) (h4 : ¬ kd = 4) (ha : ¬ am = 0) (hA : inR 0 500 am = true) : ACall Try.prog 74 [.v (.sl true 8 (smps l)), stpD kd sm am ho] [.x, .x] [.v (.sl false 8 (smps (stepL l kd sm am ho))), boo (stepB l kd sm am ho)] := by
  obtain ⟨n1, hn1⟩ : ∃ n1, n1 = l.length + 1 := ⟨_, rfl⟩
  have h16 := (goodS_at hgl).1
  have e1 : wrap64 ((l.length : Int) + 1) = (n1 : Int) := by rw [w64 (by omega) (by omega)]; omega
  have b3 : (l.length + 1) * 72 ≤ 140737488355328 := by omega
  have b4 : l.length + 1 ≤ 4611686018427387904 := by omega
  have cc := c_slices_Clone_impl_Sample_impl_Sample l (by omega)
  have i0 : inR 0 500 0 = true := inR_iff.2 ⟨by omega, by omega⟩
  have hn1' : Hd _ := hn1
  clear hn1
  have e2 : wrap64 (sm - 1) = (k : Int) := by rw [w64 (by ((try (clear e0)); (try (clear e1)); (try (clear e2)); (try (clear e3)); (try (clear e4)); (try (clear e5)); (try (clear e6)); (try (clear e7)); (try (clear e8)); (try (clear e9)); (try (clear e10)); (try (clear e11)); omega)) (by ((try (clear e0)); (try (clear e1)); (try (clear e2)); (try (clear e3)); (try (clear e4)); (try (clear e5)); (try (clear e6)); (try (clear e7)); (try (clear e8)); (try (clear e9)); (try (clear e10)); (try (clear e11)); omega))]; ((try (clear e0)); (try (clear e1)); (try (clear e2)); (try (clear e3)); (try (clear e4)); (try (clear e5)); (try (clear e6)); (try (clear e7)); (try (clear e8)); (try (clear e9)); (try (clear e10)); (try (clear e11)); omega)
  have hf : SmpF l[k] k := (good_x hgl hh hkl).2.1
  have hid : l[k].id = sm := by rw [hf.id, hk]
  have hk' : Hd _ := hk
  have hxw := hh l[k] (List.getElem_mem hkl)
  have hb := step_none (show stepR l kd sm am ho = none by rw [step_at h1 hk hkl, if_neg (by simp [h2]), if_neg (by simp [h3]), if_neg (by simp [h4])])
  rw [show stepL l kd sm am ho = [] by simp [stepL, hb], hb]
  clear hb hgl hh hk hid hf hxw
  refine ACall.of (N := 140) tok Try.func74 rfl rfl rfl (by simp) ?_
  repeat' (first | with_reducible refine OutOK.done ?_ | refine thenQ_n ?_ | refine thenQ_r ?_ | refine thenQ_e ?_ | refine AW.seq ?_ | refine AW.dreg tok mixed [5]  [(0, false), (1, false), (2, false), (4, false), (3, false), (5, true), (6, false), (7, false), (8, false), (9, false)] (by decide +kernel) rfl (by simp [*]; rfl) ?_ | refine AW.dreg tok mixed [5]  [(0, false), (1, false), (2, false), (4, false), (3, false), (5, true), (6, false), (7, false), (8, false), (9, false)] (by decide +kernel) rfl (by simp [*]; rfl) ?_ | refine AW.dreg tok mixed [9, 11, 13, 15]  [(0, false), (1, false), (2, false), (3, false), (4, false), (6, false), (7, false), (8, false), (10, false), (12, false), (14, false), (5, false), (9, true), (11, true), (13, true), (15, true), (16, false), (17, false), (18, false), (19, false)] (by decide +kernel) rfl (by simp [*]; rfl) ?_ | refine AW.dreg tok mixed [8]  [(0, false), (1, false), (7, false), (2, false), (3, false), (4, false), (5, false), (6, false), (8, true), (9, false), (10, false), (11, false), (12, false)] (by decide +kernel) rfl (by simp [*]; rfl) ?_ | refine AW.dreg tok mixed [8]  [(0, false), (1, false), (7, false), (2, false), (3, false), (4, false), (5, false), (6, false), (8, true), (9, false), (10, false), (11, false), (12, false)] (by decide +kernel) rfl (by simp [*]; rfl) ?_ | refine AW.reg tok (by simp [*]; rfl) ?_ | refine AW.ifB (by simp [*]; rfl) ?_ | refine IfG.t ?_ | refine IfG.f ?_ | (refine IfG.p (fun hg => ?_) (fun hg => ?_) <;> (try (have hg' := hg; simp at hg'))) | (refine IfG.n (fun hg => ?_) (fun hg => ?_) <;> (try (have hg' := hg; simp at hg'))) | (refine OutOK.gateP (fun hg => ?_) (fun hg => ?_) <;> (try (have hg' := hg; simp at hg'))) | (refine OutOK.gateN (fun hg => ?_) (fun hg => ?_) <;> (try (have hg' := hg; simp at hg'))) | (refine IfG.g (fun hg => ?_) (fun hg => ?_) <;> (try (have hg' := hg; simp at hg'))) | (refine OutOK.gate (fun hg => ?_) (fun hg => ?_) <;> (try (have hg' := hg; simp at hg'))) | (refine OutOK.callF [] (by simp [*]; rfl) (by simp [*]; rfl) (by simp [*]; rfl) hb76 (by apply c_impl_within <;> first | assumption | exact Hd.out (by assumption) | ((try (clear e0)); (try (clear e1)); (try (clear e2)); (try (clear e3)); (try (clear e4)); (try (clear e5)); (try (clear e6)); (try (clear e7)); (try (clear e8)); (try (clear e9)); (try (clear e10)); (try (clear e11)); omega)) ⟨by simp [*], by simp [*], by simp [*], by simp [*], by simp [*]⟩ (by simp [*]) (by simp [*]; rfl) ?_) | (refine OutOK.callF [] (by simp [*]; rfl) (by simp [*]; rfl) (by simp [*]; rfl) hb73 (by apply cc <;> first | assumption | exact Hd.out (by assumption) | ((try (clear e0)); (try (clear e1)); (try (clear e2)); (try (clear e3)); (try (clear e4)); (try (clear e5)); (try (clear e6)); (try (clear e7)); (try (clear e8)); (try (clear e9)); (try (clear e10)); (try (clear e11)); omega)) ⟨by simp [*], by simp [*], by simp [*], by simp [*], by simp [*]⟩ (by simp [*]) (by simp [*]; rfl) ?_) | refine OutOK.run (by simp [*]; rfl) ?_ | refine AW.ret ?_ | refine AW.skip ?_ | refine AW.exit ?_ | refine fin_r ?_ | refine fin_n ?_ | refine AW.block ?_ | refine blockQ_n ?_ | refine blockQ_r ?_ | refine blockQ_e ?_ | refine blockQ_o rfl ?_)
  simp [Try.f74, smps]
theorem c_impl_apply (l : List Smp) (kd sm am : Int) (ho : ByteArray) (hgl : goodS l = true) (hh : ∀ s ∈ l, SmpW s) (hho : ho.size ≤ 9223372036854775807) : ACall Try.prog 74 [.v (.sl true 8 (smps l)), stpD kd sm am ho] [.x, .x] [.v (.sl false 8 (smps (stepL l kd sm am ho))), boo (stepB l kd sm am ho)] := by
  by_cases h1 : kd = 1
  · cases hA : inR 1 500 am with
    | false => exact s_app_1n l kd sm am ho hgl hh hho h1 hA
    | true => exact s_app_1 l kd sm am ho hgl hh hho h1 hA
  cases hR : inR 1 l.length sm with
  | false => exact s_app_R l kd sm am ho hgl hh hho h1 hR
  | true =>
    have hr := inR_iff.1 hR
    obtain ⟨k, hk⟩ : ∃ k : Nat, sm = ((k + 1 : Nat) : Int) := ⟨(sm - 1).toNat, by omega⟩
    have hkl : k < l.length := by omega
    by_cases h2 : kd = 2
    · by_cases ha : am = 0
      · exact s_app_2 l kd sm am ho hgl hh hho h1 hR k hkl hk h2 ha
      · exact s_app_2n l kd sm am ho hgl hh hho h1 hR k hkl hk h2 ha
    by_cases ha : am = 0
    · exact s_app_z l kd sm am ho hgl hh hho h1 hR k hkl hk h2 (.inr ha)
    cases hA : inR 0 500 am with
    | false => exact s_app_z l kd sm am ho hgl hh hho h1 hR k hkl hk h2 (.inl hA)
    | true =>
      by_cases h3 : kd = 3
      · exact s_app_3 l kd sm am ho hgl hh hho h1 hR k hkl hk h3 ha hA
      by_cases h4 : kd = 4
      · by_cases h5 : ho.toList = []
        · exact s_app_4 l kd sm am ho hgl hh hho h1 hR k hkl hk h4 ha hA h5
        · exact s_app_4n l kd sm am ho hgl hh hho h1 hR k hkl hk h4 ha hA h5
      · exact s_app_n l kd sm am ho hgl hh hho h1 hR k hkl hk h2 h3 h4 ha hA
end Go.Proofs.Ytodombkmnnggeaa.EngS


set_option linter.unusedSimpArgs false
set_option linter.unusedVariables false
set_option maxHeartbeats 4000000
set_option maxRecDepth 100000
namespace Go.Proofs.Ytodombkmnnggeaa.EngS
open Go Go.Proofs Go.Eng Go.RowKit
attribute [local irreducible] Go.RowKit.wrap64
def sumN (f : Nat → Int) : Nat → Int
  | 0 => 0
  | n + 1 => sumN f n + f n
theorem sumN_in {f : Nat → Int} {b : Int} : ∀ {n : Nat}, (∀ i < n, 0 ≤ f i ∧ f i ≤ b) → 0 ≤ sumN f n ∧ sumN f n ≤ b * n
  | 0, _ => by simp [sumN]
  | n + 1, h => by
    have h1 := sumN_in (n := n) (fun i hi => h i (by omega))
    have h2 := h n (by omega)
    simp only [sumN]
    have : b * ((n + 1 : Nat) : Int) = b * n + b := by rw [Int.natCast_add, Int.mul_add]; simp
    omega
def sumS (f : Smp → Int) (l : List Smp) (n : Nat) : Int := sumN (fun i => f (l[i]?.getD default)) n
structure Facts (l : List Smp) : Prop where
  len : l.length ≤ 16
  f : ∀ (k : Nat) (hk : k < l.length), SmpF l[k] k
  g : ∀ (k : Nat) (hk : k < l.length), l[k].giv = givI l l[k].id l.length
theorem Facts.in {l : List Smp} (h : Facts l) {f : Smp → Int} (hf : ∀ s k, SmpF s k → 0 ≤ f s ∧ f s ≤ 500) {n : Nat} (hn : n ≤ l.length) : 0 ≤ sumS f l n ∧ sumS f l n ≤ 8000 := by
  have := sumN_in (f := fun i => f (l[i]?.getD default)) (b := 500) (n := n) (fun i hi => by
    have hi' : i < l.length := by omega
    simp only [List.getElem?_eq_getElem hi', Option.getD_some]
    exact hf _ _ (h.f i hi'))
  have h2 := h.len
  unfold sumS
  omega
theorem step_W {l m : List Smp} {kd sm am : Int} {ho : ByteArray} (hw : ∀ s ∈ l, SmpW s) (hho : ho.size ≤ 9223372036854775807) (hs : stepR l kd sm am ho = some m) : (∀ s ∈ m, SmpW s) ∧ m.length ≤ l.length + 1 := by
  by_cases h1 : kd = 1
  · simp only [stepR, if_pos h1, Option.some.injEq] at hs
    subst hs
    exact ⟨W_app hw ⟨hho, by simp, by simp⟩, by simp⟩
  · cases hR : inR 1 l.length sm with
    | false => simp [stepR, h1, hR] at hs
    | true =>
      have hr := inR_iff.1 hR
      obtain ⟨k, hk⟩ : ∃ k : Nat, sm = ((k + 1 : Nat) : Int) := ⟨(sm - 1).toNat, by omega⟩
      have hkl : k < l.length := by omega
      have hxw := hw l[k] (List.getElem_mem hkl)
      rw [step_at h1 hk hkl] at hs
      by_cases c2 : kd = 2 ∧ am = 0
      · rw [if_pos c2, Option.some.injEq] at hs
        subst hs
        exact ⟨W_set hw ⟨hho, hxw.2⟩, by simp⟩
      rw [if_neg c2] at hs
      by_cases c3 : kd = 3 ∧ inR 1 l[k].lef am = true
      · rw [if_pos c3, Option.some.injEq] at hs
        subst hs
        exact ⟨W_app (W_set hw ⟨hxw.1, w64_in _⟩) ⟨hho, by simp, by simp⟩, by simp⟩
      rw [if_neg c3] at hs
      by_cases c4 : kd = 4 ∧ inR 1 l[k].lef am = true ∧ ho.toList = []
      · rw [if_pos c4, Option.some.injEq] at hs
        subst hs
        exact ⟨W_set hw hxw, by simp⟩
      · rw [if_neg c4] at hs; cases hs
theorem step_ok {l : List Smp} {kd sm am : Int} {ho : ByteArray} (h : stepB l kd sm am ho = true) : stepR l kd sm am ho = some (stepL l kd sm am ho) ∧ goodS (stepL l kd sm am ho) = true := by
  have h0 := h
  simp only [stepB] at h
  cases hs : stepR l kd sm am ho with
  | none => rw [hs] at h; cases h
  | some m =>
    rw [hs] at h
    obtain ⟨_, h2⟩ := step_some hs
    rw [h2 h]; exact ⟨rfl, h⟩
theorem c_laws_vSamples (l : List Smp) (h : l.length < 9223372036854775807) : ACall Try.prog 19 [.v (.sl true 8 (smps l)), .v (.sl true 8 (smps l))] [.x, .x] [boo true] := by
  refine ACall.of (N := 26) tok Try.func19 rfl rfl rfl (by simp) ?_
  repeat' (first | with_reducible refine OutOK.done ?_ | refine thenQ_n ?_ | refine thenQ_r ?_ | refine thenQ_e ?_ | refine AW.seq ?_ | refine AW.dreg tok mixed [7]  [(0, false), (1, false), (2, false), (4, false), (5, false), (6, false), (3, false), (7, true), (8, false)] (by decide +kernel) rfl (by simp [*]; rfl) ?_ | refine AW.reg tok (by simp [*]; rfl) ?_ | refine AW.ifB (by simp [*]; rfl) ?_ | refine IfG.t ?_ | refine IfG.f ?_ | (refine IfG.p (fun hg => ?_) (fun hg => ?_) <;> (try (have hg' := hg; simp at hg'))) | (refine IfG.n (fun hg => ?_) (fun hg => ?_) <;> (try (have hg' := hg; simp at hg'))) | (refine OutOK.gateP (fun hg => ?_) (fun hg => ?_) <;> (try (have hg' := hg; simp at hg'))) | (refine OutOK.gateN (fun hg => ?_) (fun hg => ?_) <;> (try (have hg' := hg; simp at hg'))) | (refine IfG.g (fun hg => ?_) (fun hg => ?_) <;> (try (have hg' := hg; simp at hg'))) | (refine OutOK.gate (fun hg => ?_) (fun hg => ?_) <;> (try (have hg' := hg; simp at hg'))) | refine OutOK.run (by simp [*]; rfl) ?_ | refine AW.ret ?_ | refine AW.skip ?_ | refine AW.exit ?_ | refine fin_r ?_ | refine fin_n ?_ | refine AW.block ?_ | refine blockQ_n ?_ | refine blockQ_r ?_ | refine blockQ_e ?_ | refine blockQ_o rfl ?_)
  refine AW.loopL (fun i => i ≤ l.length) (fun i => [(0, .c (.sl true 8 (smps l))), (1, .c (.sl true 8 (smps l))), (5, .c (.sc (.int .i64 (i : Int))))]) (fun _ => []) (fun i => l.length - i) 0 (Nat.zero_le _) ⟨by simp, by simp, by simp⟩ ?_
  intro i hi
  rcases Nat.lt_or_ge i l.length with hl | hl
  · have e1 : wrap64 ((i : Int) + 1) = ((i + 1 : Nat) : Int) := by rw [w64 (by omega) (by omega)]; omega
    repeat' (first | with_reducible refine OutOK.done ?_ | refine thenQ_n ?_ | refine thenQ_r ?_ | refine thenQ_e ?_ | refine AW.seq ?_ | refine AW.dreg tok mixed [7]  [(0, false), (1, false), (2, false), (4, false), (5, false), (6, false), (3, false), (7, true), (8, false)] (by decide +kernel) rfl (by simp [*]; rfl) ?_ | refine AW.reg tok (by simp [*]; rfl) ?_ | refine AW.ifB (by simp [*]; rfl) ?_ | refine IfG.t ?_ | refine IfG.f ?_ | (refine IfG.p (fun hg => ?_) (fun hg => ?_) <;> (try (have hg' := hg; simp at hg'))) | (refine IfG.n (fun hg => ?_) (fun hg => ?_) <;> (try (have hg' := hg; simp at hg'))) | (refine OutOK.gateP (fun hg => ?_) (fun hg => ?_) <;> (try (have hg' := hg; simp at hg'))) | (refine OutOK.gateN (fun hg => ?_) (fun hg => ?_) <;> (try (have hg' := hg; simp at hg'))) | (refine IfG.g (fun hg => ?_) (fun hg => ?_) <;> (try (have hg' := hg; simp at hg'))) | (refine OutOK.gate (fun hg => ?_) (fun hg => ?_) <;> (try (have hg' := hg; simp at hg'))) | refine OutOK.run (by simp [*]; rfl) ?_ | refine AW.ret ?_ | refine AW.skip ?_ | refine AW.exit ?_ | refine fin_r ?_ | refine fin_n ?_ | refine AW.block ?_ | refine blockQ_n ?_ | refine blockQ_r ?_ | refine blockQ_e ?_ | refine blockQ_o rfl ?_)
    exact ⟨i + 1, hl, ⟨by simp, by simp, by simp⟩, by ((try (clear e0)); (try (clear e1)); (try (clear e2)); (try (clear e3)); (try (clear e4)); (try (clear e5)); (try (clear e6)); (try (clear e7)); (try (clear e8)); (try (clear e9)); (try (clear e10)); (try (clear e11)); omega)⟩
  · have hn : ¬ i < l.length := by omega
    repeat' (first | with_reducible refine OutOK.done ?_ | refine thenQ_n ?_ | refine thenQ_r ?_ | refine thenQ_e ?_ | refine AW.seq ?_ | refine AW.dreg tok mixed [7]  [(0, false), (1, false), (2, false), (4, false), (5, false), (6, false), (3, false), (7, true), (8, false)] (by decide +kernel) rfl (by simp [*]; rfl) ?_ | refine AW.reg tok (by simp [*]; rfl) ?_ | refine AW.ifB (by simp [*]; rfl) ?_ | refine IfG.t ?_ | refine IfG.f ?_ | (refine IfG.p (fun hg => ?_) (fun hg => ?_) <;> (try (have hg' := hg; simp at hg'))) | (refine IfG.n (fun hg => ?_) (fun hg => ?_) <;> (try (have hg' := hg; simp at hg'))) | (refine OutOK.gateP (fun hg => ?_) (fun hg => ?_) <;> (try (have hg' := hg; simp at hg'))) | (refine OutOK.gateN (fun hg => ?_) (fun hg => ?_) <;> (try (have hg' := hg; simp at hg'))) | (refine IfG.g (fun hg => ?_) (fun hg => ?_) <;> (try (have hg' := hg; simp at hg'))) | (refine OutOK.gate (fun hg => ?_) (fun hg => ?_) <;> (try (have hg' := hg; simp at hg'))) | refine OutOK.run (by simp [*]; rfl) ?_ | refine AW.ret ?_ | refine AW.skip ?_ | refine AW.exit ?_ | refine fin_r ?_ | refine fin_n ?_ | refine AW.block ?_ | refine blockQ_n ?_ | refine blockQ_r ?_ | refine blockQ_e ?_ | refine blockQ_o rfl ?_)
    all_goals (try simp [*, Try.f19])
end Go.Proofs.Ytodombkmnnggeaa.EngS


set_option linter.unusedSimpArgs false
set_option linter.unusedVariables false
set_option maxHeartbeats 4000000
set_option maxRecDepth 100000
namespace Go.Proofs.Ytodombkmnnggeaa.EngS
open Go Go.Proofs Go.Eng Go.RowKit
attribute [local irreducible] Go.RowKit.wrap64
def appB (l : List Smp) (kd sm am : Int) (ho : ByteArray) : Bool := goodS l && stepB l kd sm am ho
def appL (l : List Smp) (kd sm am : Int) (ho : ByteArray) : List Smp := if appB l kd sm am ho = true then stepL l kd sm am ho else []
theorem c_impl_ApplyStep (l : List Smp) (kd sm am : Int) (ho : ByteArray) (h : l.length ≤ 1000) (hh : ∀ s ∈ l, SmpW s) (hho : ho.size ≤ 9223372036854775807) :
    ACall Try.prog 20 [.v (.sl true 8 (smps l)), stpD kd sm am ho] [.x, .x] [.v (.sl false 8 (smps (appL l kd sm am ho))), boo (appB l kd sm am ho)] := by
  have cv := c_impl_IsValidSamples l (by omega) hh
  cases hg : goodS l with
  | false =>
    rw [hg] at cv
    have hb : appB l kd sm am ho = false := by simp [appB, hg]
    rw [show appL l kd sm am ho = [] by simp [appL, hb], hb]
    clear hb hg hh
    refine ACall.of (N := 14) tok Try.func20 rfl rfl rfl (by simp) ?_
    repeat' (first | with_reducible refine OutOK.done ?_ | refine thenQ_n ?_ | refine thenQ_r ?_ | refine thenQ_e ?_ | refine AW.seq ?_ | refine AW.reg tok (by simp [*]; rfl) ?_ | refine AW.ifB (by simp [*]; rfl) ?_ | refine IfG.t ?_ | refine IfG.f ?_ | (refine IfG.p (fun hg => ?_) (fun hg => ?_) <;> (try (have hg' := hg; simp at hg'))) | (refine IfG.n (fun hg => ?_) (fun hg => ?_) <;> (try (have hg' := hg; simp at hg'))) | (refine OutOK.gateP (fun hg => ?_) (fun hg => ?_) <;> (try (have hg' := hg; simp at hg'))) | (refine OutOK.gateN (fun hg => ?_) (fun hg => ?_) <;> (try (have hg' := hg; simp at hg'))) | (refine IfG.g (fun hg => ?_) (fun hg => ?_) <;> (try (have hg' := hg; simp at hg'))) | (refine OutOK.gate (fun hg => ?_) (fun hg => ?_) <;> (try (have hg' := hg; simp at hg'))) | (refine OutOK.callF [] (by simp [*]; rfl) (by simp [*]; rfl) (by simp [*]; rfl) hb74 (by apply c_impl_apply <;> first | assumption | exact Hd.out (by assumption) | ((try (clear e0)); (try (clear e1)); (try (clear e2)); (try (clear e3)); (try (clear e4)); (try (clear e5)); (try (clear e6)); (try (clear e7)); (try (clear e8)); (try (clear e9)); (try (clear e10)); (try (clear e11)); omega)) ⟨by simp [*], by simp [*], by simp [*], by simp [*], by simp [*]⟩ (by simp [*]) (by simp [*]; rfl) ?_) | (refine OutOK.callF [] (by simp [*]; rfl) (by simp [*]; rfl) (by simp [*]; rfl) hb72 (by apply cv <;> first | assumption | exact Hd.out (by assumption) | ((try (clear e0)); (try (clear e1)); (try (clear e2)); (try (clear e3)); (try (clear e4)); (try (clear e5)); (try (clear e6)); (try (clear e7)); (try (clear e8)); (try (clear e9)); (try (clear e10)); (try (clear e11)); omega)) ⟨by simp [*], by simp [*], by simp [*], by simp [*], by simp [*]⟩ (by simp [*]) (by simp [*]; rfl) ?_) | refine OutOK.run (by simp [*]; rfl) ?_ | refine AW.ret ?_ | refine AW.skip ?_ | refine AW.exit ?_ | refine fin_r ?_ | refine fin_n ?_ | refine AW.block ?_ | refine blockQ_n ?_ | refine blockQ_r ?_ | refine blockQ_e ?_ | refine blockQ_o rfl ?_)
    simp [Try.f20, smps]
  | true =>
    rw [hg] at cv
    have ca := c_impl_apply l kd sm am ho hg hh hho
    have hb : appB l kd sm am ho = stepB l kd sm am ho := by simp [appB, hg]
    have hl : appL l kd sm am ho = stepL l kd sm am ho := by
      unfold appL
      rw [hb]
      cases hs : stepB l kd sm am ho
      · simp [stepL, hs]
      · simp
    rw [hb, hl]
    generalize stepB l kd sm am ho = sb at *
    generalize stepL l kd sm am ho = sl at *
    clear hb hl hg hh
    refine ACall.of (N := 14) tok Try.func20 rfl rfl rfl (by simp) ?_
    repeat' (first | with_reducible refine OutOK.done ?_ | refine thenQ_n ?_ | refine thenQ_r ?_ | refine thenQ_e ?_ | refine AW.seq ?_ | refine AW.reg tok (by simp [*]; rfl) ?_ | refine AW.ifB (by simp [*]; rfl) ?_ | refine IfG.t ?_ | refine IfG.f ?_ | (refine IfG.p (fun hg => ?_) (fun hg => ?_) <;> (try (have hg' := hg; simp at hg'))) | (refine IfG.n (fun hg => ?_) (fun hg => ?_) <;> (try (have hg' := hg; simp at hg'))) | (refine OutOK.gateP (fun hg => ?_) (fun hg => ?_) <;> (try (have hg' := hg; simp at hg'))) | (refine OutOK.gateN (fun hg => ?_) (fun hg => ?_) <;> (try (have hg' := hg; simp at hg'))) | (refine IfG.g (fun hg => ?_) (fun hg => ?_) <;> (try (have hg' := hg; simp at hg'))) | (refine OutOK.gate (fun hg => ?_) (fun hg => ?_) <;> (try (have hg' := hg; simp at hg'))) | (refine OutOK.callF [] (by simp [*]; rfl) (by simp [*]; rfl) (by simp [*]; rfl) hb72 (by apply cv <;> first | assumption | exact Hd.out (by assumption) | ((try (clear e0)); (try (clear e1)); (try (clear e2)); (try (clear e3)); (try (clear e4)); (try (clear e5)); (try (clear e6)); (try (clear e7)); (try (clear e8)); (try (clear e9)); (try (clear e10)); (try (clear e11)); omega)) ⟨by simp [*], by simp [*], by simp [*], by simp [*], by simp [*]⟩ (by simp [*]) (by simp [*]; rfl) ?_) | (refine OutOK.callF [] (by simp [*]; rfl) (by simp [*]; rfl) (by simp [*]; rfl) hb74 (by apply ca <;> first | assumption | exact Hd.out (by assumption) | ((try (clear e0)); (try (clear e1)); (try (clear e2)); (try (clear e3)); (try (clear e4)); (try (clear e5)); (try (clear e6)); (try (clear e7)); (try (clear e8)); (try (clear e9)); (try (clear e10)); (try (clear e11)); omega)) ⟨by simp [*], by simp [*], by simp [*], by simp [*], by simp [*]⟩ (by simp [*]) (by simp [*]; rfl) ?_) | refine OutOK.run (by simp [*]; rfl) ?_ | refine AW.ret ?_ | refine AW.skip ?_ | refine AW.exit ?_ | refine fin_r ?_ | refine fin_n ?_ | refine AW.block ?_ | refine blockQ_n ?_ | refine blockQ_r ?_ | refine blockQ_e ?_ | refine blockQ_o rfl ?_)
    simp [Try.f20]
end Go.Proofs.Ytodombkmnnggeaa.EngS


set_option linter.unusedSimpArgs false
set_option linter.unusedVariables false
set_option maxHeartbeats 4000000
set_option maxRecDepth 100000
namespace Go.Proofs.Ytodombkmnnggeaa.EngS
open Go Go.Proofs Go.Eng Go.RowKit
attribute [local irreducible] Go.RowKit.wrap64
structure Stp where
  kd : Int
  sm : Int
  am : Int
  hol : ByteArray
  deriving Inhabited
def stpC (s : Stp) : List PV := [.sc (.int .i64 s.kd), .sc (.int .i64 s.sm), .sc (.int .i64 s.am), .sc (.string s.hol)]
@[simp] theorem stpC_eq (s : Stp) : stpC s = [.sc (.int .i64 s.kd), .sc (.int .i64 s.sm), .sc (.int .i64 s.am), .sc (.string s.hol)] := rfl
instance stpFlat : Flat stpC where
  frz _ := rfl
  ok _ := rfl
  nofz _ := rfl
  fl _ := rfl
  inj x y h := by cases x; cases y; simpa using h
abbrev stps (l : List Stp) : List PV := els stpC l
@[simp] theorem stps_set (l : List Stp) (i : Nat) (a b c : Int) (h : ByteArray) : (stps l).set i (.ag [.sc (.int .i64 a), .sc (.int .i64 b), .sc (.int .i64 c), .sc (.string h)]) = stps (l.set i ⟨a, b, c, h⟩) := by
  simp [stps, els, List.map_set]
@[simp] theorem stps_snoc (l : List Stp) (a b c : Int) (h : ByteArray) : stps l ++ [.ag [.sc (.int .i64 a), .sc (.int .i64 b), .sc (.int .i64 c), .sc (.string h)]] = stps (l ++ [⟨a, b, c, h⟩]) := by
  simp [stps, els]
def stB (l : List Smp) (s : Stp) : Bool := stepB l s.kd s.sm s.am s.hol
def stL (l : List Smp) (s : Stp) : List Smp := stepL l s.kd s.sm s.am s.hol
def runL : List Smp → List Stp → List Smp × Nat
  | l, [] => (l, 0)
  | l, s :: ss => if stB l s = true then ((runL (stL l s) ss).1, (runL (stL l s) ss).2 + 1) else (l, 0)
theorem runL_yes {l : List Smp} {xs : List Stp} {i : Nat} (h : i < xs.length) (hb : stB l xs[i] = true) : runL l (xs.drop i) = ((runL (stL l xs[i]) (xs.drop (i + 1))).1, (runL (stL l xs[i]) (xs.drop (i + 1))).2 + 1) := by
  rw [List.drop_eq_getElem_cons h, runL, if_pos hb]
theorem runL_no {l : List Smp} {xs : List Stp} {i : Nat} (h : i < xs.length) (hb : stB l xs[i] = false) : runL l (xs.drop i) = (l, 0) := by
  rw [List.drop_eq_getElem_cons h, runL, if_neg (by simp [hb])]
theorem runL_end {l : List Smp} {xs : List Stp} {i : Nat} (h : xs.length ≤ i) : runL l (xs.drop i) = (l, 0) := by
  rw [List.drop_eq_nil_of_le h, runL]
def stpW (s : Stp) : Prop := s.hol.size ≤ 9223372036854775807
theorem stB_ok {l : List Smp} {s : Stp} (hw : ∀ x ∈ l, SmpW x) (hs : stpW s) (h : stB l s = true) : goodS (stL l s) = true ∧ (∀ x ∈ stL l s, SmpW x) := by
  obtain ⟨h1, h2⟩ := step_ok h
  exact ⟨h2, (step_W hw hs h1).1⟩
def runB (l : List Smp) (xs : List Stp) : Bool := goodS l && decide (xs.length ≤ 30)
def runM (l : List Smp) (xs : List Stp) : List Smp := if runB l xs = true then (runL l xs).1 else []
def runN (l : List Smp) (xs : List Stp) : Nat := if runB l xs = true then (runL l xs).2 else 0
theorem run_good {xs : List Stp} : ∀ {l : List Smp}, goodS l = true → (∀ x ∈ l, SmpW x) → (∀ s ∈ xs, stpW s) → goodS (runL l xs).1 = true ∧ (∀ x ∈ (runL l xs).1, SmpW x) ∧ (runL l xs).2 ≤ xs.length := by
  induction xs with
  | nil => intro l h1 h2 _; exact ⟨h1, h2, Nat.le_refl _⟩
  | cons s ss ih =>
    intro l h1 h2 h3
    rw [runL]
    split
    · rename_i hb
      obtain ⟨k1, k2⟩ := stB_ok h2 (h3 s (by simp)) hb
      obtain ⟨i1, i2, i3⟩ := ih k1 k2 (fun x hx => h3 x (by simp [hx]))
      exact ⟨i1, i2, by simp only [List.length_cons]; omega⟩
    · exact ⟨h1, h2, Nat.zero_le _⟩
end Go.Proofs.Ytodombkmnnggeaa.EngS


set_option linter.unusedSimpArgs false
set_option linter.unusedVariables false
set_option maxHeartbeats 4000000
set_option maxRecDepth 100000
namespace Go.Proofs.Ytodombkmnnggeaa.EngS
open Go Go.Proofs Go.Eng Go.RowKit
attribute [local irreducible] Go.RowKit.wrap64
def cx (l : List Smp) (j : Nat) : Int := (l[j]?.getD default).ctx
theorem cx_at {l : List Smp} {j : Nat} (h : j < l.length) : cx l j = l[j].ctx := by simp [cx, h]
theorem anc_in {l : List Smp} (hg : goodS l = true) : ∀ (n k : Nat), k ≤ n → k ≤ l.length → ∀ y ∈ ancN l k, ∃ j : Nat, y = ((j + 1 : Nat) : Int) ∧ j < k ∧ cx l j = cx l (k - 1)
  | _, 0, _, _, y, hy => by simp [ancN_zero] at hy
  | 0, k + 1, h, _, y, hy => by omega
  | n + 1, k + 1, h, hk, y, hy => by
    rw [ancN_succ] at hy
    rcases List.mem_cons.1 hy with rfl | hy
    · exact ⟨k, rfl, by omega, rfl⟩
    · obtain ⟨_, _, g3, g4⟩ := good_par hg (show k < l.length by omega)
      obtain ⟨j, h1, h2, h3⟩ := anc_in hg n (parN l k) (by omega) (by omega) y hy
      refine ⟨j, h1, by omega, ?_⟩
      rw [h3]
      have hs := (goodS_at hg).2 k (by omega)
      simp only [smOK, smC, Bool.and_eq_true, Bool.or_eq_true, decide_eq_true_eq] at hs
      have hc := hs.1.2
      rw [g4] at hc
      have hp : 0 < parN l k := by omega
      rcases hc with hc | hc
      · omega
      · have e : ((parN l k : Int) - 1).toNat = parN l k - 1 := by omega
        rw [e] at hc
        simp only [cx, Nat.add_sub_cancel]
        rw [hc, List.getElem?_eq_getElem (show k < l.length by omega), Option.getD_some]
theorem anc_has {l : List Smp} (hg : goodS l = true) {k : Nat} (hk : k < l.length) {y : Int} (hy : y ∈ ancN l (parN l k)) : ∃ j : Nat, y = ((j + 1 : Nat) : Int) ∧ j < l.length ∧ cx l j = l[k].ctx ∧ derB l y = true ∧ ((derL l y).any fun x => decide (x = ((k + 1 : Nat) : Int))) = true := by
  obtain ⟨_, g2, g3, g4⟩ := good_par hg hk
  obtain ⟨j, h1, h2, h3⟩ := anc_in hg (k + 1) (k + 1) (Nat.le_refl _) (by omega) y (by rw [ancN_succ]; exact List.mem_cons_of_mem _ hy)
  obtain ⟨j', h1', h2', _⟩ := anc_in hg (parN l k) (parN l k) (Nat.le_refl _) (by omega) y hy
  have hb : derB l y = true := by
    simp only [derB, hg, Bool.true_and]; exact inR_iff.2 ⟨by omega, by omega⟩
  refine ⟨j, h1, by omega, by rw [h3]; exact cx_at hk, hb, ?_⟩
  rw [List.any_eq_true]
  refine ⟨l[k].id, ?_, by simp [g2]⟩
  rw [derL, if_pos hb, selI]
  refine List.mem_map.2 ⟨l[k], List.mem_filter.2 ⟨List.getElem_mem hk, ?_⟩, rfl⟩
  rw [derP, g2]
  simp only [Bool.and_eq_true, Bool.not_eq_true', decide_eq_false_iff_not, List.any_eq_true, decide_eq_true_eq]
  refine ⟨by omega, y, ?_, rfl⟩
  rw [Int.toNat_natCast, ancN_succ]
  exact List.mem_cons_of_mem _ hy
theorem c_impl_AncestryOf (l : List Smp) (k : Nat) (hh : ∀ s ∈ l, SmpW s) (hg : goodS l = true) (hk : k < l.length) : ACall Try.prog 21 [.v (.sl true 8 (smps l)), int ((k + 1 : Nat) : Int)] [.x, .x] [.v (.sl false 1 (ints (ancN l (k + 1)))), boo true] := by
  have h16 := (goodS_at hg).1
  have cv := c_impl_IsValidSamples l (by omega) hh
  rw [hg] at cv
  have ca := c_impl_ancestry l (k + 1) hg (by omega)
  have hR : inR 1 (l.length : Int) ((k + 1 : Nat) : Int) = true := inR_iff.2 ⟨by omega, by omega⟩
  generalize ancN l (k + 1) = al at *
  generalize k + 1 = k1 at *
  clear hh hg
  refine ACall.of (N := 19) tok Try.func21 rfl rfl rfl (by simp) ?_
  repeat' (first | with_reducible refine OutOK.done ?_ | refine thenQ_n ?_ | refine thenQ_r ?_ | refine thenQ_e ?_ | refine AW.seq ?_ | refine AW.reg tok (by simp [*]; rfl) ?_ | refine AW.ifB (by simp [*]; rfl) ?_ | refine IfG.t ?_ | refine IfG.f ?_ | (refine IfG.p (fun hg => ?_) (fun hg => ?_) <;> (try (have hg' := hg; simp at hg'))) | (refine IfG.n (fun hg => ?_) (fun hg => ?_) <;> (try (have hg' := hg; simp at hg'))) | (refine OutOK.gateP (fun hg => ?_) (fun hg => ?_) <;> (try (have hg' := hg; simp at hg'))) | (refine OutOK.gateN (fun hg => ?_) (fun hg => ?_) <;> (try (have hg' := hg; simp at hg'))) | (refine IfG.g (fun hg => ?_) (fun hg => ?_) <;> (try (have hg' := hg; simp at hg'))) | (refine OutOK.gate (fun hg => ?_) (fun hg => ?_) <;> (try (have hg' := hg; simp at hg'))) | (refine OutOK.callF [] (by simp [*]; rfl) (by simp [*]; rfl) (by simp [*]; rfl) hb72 (by apply cv <;> first | assumption | exact Hd.out (by assumption) | ((try (clear e0)); (try (clear e1)); (try (clear e2)); (try (clear e3)); (try (clear e4)); (try (clear e5)); (try (clear e6)); (try (clear e7)); (try (clear e8)); (try (clear e9)); (try (clear e10)); (try (clear e11)); omega)) ⟨by simp [*], by simp [*], by simp [*], by simp [*], by simp [*]⟩ (by simp [*]) (by simp [*]; rfl) ?_) | (refine OutOK.callF [] (by simp [*]; rfl) (by simp [*]; rfl) (by simp [*]; rfl) hb76 (by apply c_impl_within <;> first | assumption | exact Hd.out (by assumption) | ((try (clear e0)); (try (clear e1)); (try (clear e2)); (try (clear e3)); (try (clear e4)); (try (clear e5)); (try (clear e6)); (try (clear e7)); (try (clear e8)); (try (clear e9)); (try (clear e10)); (try (clear e11)); omega)) ⟨by simp [*], by simp [*], by simp [*], by simp [*], by simp [*]⟩ (by simp [*]) (by simp [*]; rfl) ?_) | (refine OutOK.callF [] (by simp [*]; rfl) (by simp [*]; rfl) (by simp [*]; rfl) hb77 (by apply ca <;> first | assumption | exact Hd.out (by assumption) | ((try (clear e0)); (try (clear e1)); (try (clear e2)); (try (clear e3)); (try (clear e4)); (try (clear e5)); (try (clear e6)); (try (clear e7)); (try (clear e8)); (try (clear e9)); (try (clear e10)); (try (clear e11)); omega)) ⟨by simp [*], by simp [*], by simp [*], by simp [*], by simp [*]⟩ (by simp [*]) (by simp [*]; rfl) ?_) | refine OutOK.run (by simp [*]; rfl) ?_ | refine AW.ret ?_ | refine AW.skip ?_ | refine AW.exit ?_ | refine fin_r ?_ | refine fin_n ?_ | refine AW.block ?_ | refine blockQ_n ?_ | refine blockQ_r ?_ | refine blockQ_e ?_ | refine blockQ_o rfl ?_)
  simp [Try.f21]
end Go.Proofs.Ytodombkmnnggeaa.EngS


set_option linter.unusedSimpArgs false
set_option linter.unusedVariables false
set_option maxHeartbeats 4000000
set_option maxRecDepth 100000
namespace Go.Proofs.Ytodombkmnnggeaa.EngS
open Go Go.Proofs Go.Eng Go.RowKit
attribute [local irreducible] Go.RowKit.wrap64
theorem c_impl_RunSteps (l : List Smp) (xs : List Stp) (h : l.length ≤ 1000000000) (hx : xs.length ≤ 1000000000) (hh : ∀ s ∈ l, SmpW s) (hs : ∀ s ∈ xs, stpW s) :
    ACall Try.prog 17 [.v (.sl true 8 (smps l)), .v (.sl true 4 (stps xs))] [.x, .x] [.v (.sl false 8 (smps (runM l xs))), int (runN l xs), boo (runB l xs)] := by
  have cv := c_impl_IsValidSamples l (by omega) hh
  cases hB : runB l xs with
  | false =>
    rw [show runM l xs = [] by simp [runM, hB], show runN l xs = 0 by simp [runN, hB]]
    cases hg : goodS l with
    | false =>
      rw [hg] at cv
      clear hB hg hh hs
      refine ACall.of (N := 44) tok Try.func17 rfl rfl rfl (by simp) ?_
      repeat' (first | with_reducible refine OutOK.done ?_ | refine thenQ_n ?_ | refine thenQ_r ?_ | refine thenQ_e ?_ | refine AW.seq ?_ | refine AW.reg tok (by simp [*]; rfl) ?_ | refine AW.ifB (by simp [*]; rfl) ?_ | refine IfG.t ?_ | refine IfG.f ?_ | (refine IfG.p (fun hg => ?_) (fun hg => ?_) <;> (try (have hg' := hg; simp at hg'))) | (refine IfG.n (fun hg => ?_) (fun hg => ?_) <;> (try (have hg' := hg; simp at hg'))) | (refine OutOK.gateP (fun hg => ?_) (fun hg => ?_) <;> (try (have hg' := hg; simp at hg'))) | (refine OutOK.gateN (fun hg => ?_) (fun hg => ?_) <;> (try (have hg' := hg; simp at hg'))) | (refine IfG.g (fun hg => ?_) (fun hg => ?_) <;> (try (have hg' := hg; simp at hg'))) | (refine OutOK.gate (fun hg => ?_) (fun hg => ?_) <;> (try (have hg' := hg; simp at hg'))) | (refine OutOK.callF [] (by simp [*]; rfl) (by simp [*]; rfl) (by simp [*]; rfl) hb72 (by apply cv <;> first | assumption | exact Hd.out (by assumption) | ((try (clear e0)); (try (clear e1)); (try (clear e2)); (try (clear e3)); (try (clear e4)); (try (clear e5)); (try (clear e6)); (try (clear e7)); (try (clear e8)); (try (clear e9)); (try (clear e10)); (try (clear e11)); omega)) ⟨by simp [*], by simp [*], by simp [*], by simp [*], by simp [*]⟩ (by simp [*]) (by simp [*]; rfl) ?_) | refine OutOK.run (by simp [*]; rfl) ?_ | refine AW.ret ?_ | refine AW.skip ?_ | refine AW.exit ?_ | refine fin_r ?_ | refine fin_n ?_ | refine AW.block ?_ | refine blockQ_n ?_ | refine blockQ_r ?_ | refine blockQ_e ?_ | refine blockQ_o rfl ?_)
      simp [Try.f17, smps]
    | true =>
      rw [hg] at cv
      have h30 : (30 : Int) < xs.length := by simp [runB, hg] at hB; omega
      clear hB hg hh hs
      refine ACall.of (N := 44) tok Try.func17 rfl rfl rfl (by simp) ?_
      repeat' (first | with_reducible refine OutOK.done ?_ | refine thenQ_n ?_ | refine thenQ_r ?_ | refine thenQ_e ?_ | refine AW.seq ?_ | refine AW.reg tok (by simp [*]; rfl) ?_ | refine AW.ifB (by simp [*]; rfl) ?_ | refine IfG.t ?_ | refine IfG.f ?_ | (refine IfG.p (fun hg => ?_) (fun hg => ?_) <;> (try (have hg' := hg; simp at hg'))) | (refine IfG.n (fun hg => ?_) (fun hg => ?_) <;> (try (have hg' := hg; simp at hg'))) | (refine OutOK.gateP (fun hg => ?_) (fun hg => ?_) <;> (try (have hg' := hg; simp at hg'))) | (refine OutOK.gateN (fun hg => ?_) (fun hg => ?_) <;> (try (have hg' := hg; simp at hg'))) | (refine IfG.g (fun hg => ?_) (fun hg => ?_) <;> (try (have hg' := hg; simp at hg'))) | (refine OutOK.gate (fun hg => ?_) (fun hg => ?_) <;> (try (have hg' := hg; simp at hg'))) | (refine OutOK.callF [] (by simp [*]; rfl) (by simp [*]; rfl) (by simp [*]; rfl) hb72 (by apply cv <;> first | assumption | exact Hd.out (by assumption) | ((try (clear e0)); (try (clear e1)); (try (clear e2)); (try (clear e3)); (try (clear e4)); (try (clear e5)); (try (clear e6)); (try (clear e7)); (try (clear e8)); (try (clear e9)); (try (clear e10)); (try (clear e11)); omega)) ⟨by simp [*], by simp [*], by simp [*], by simp [*], by simp [*]⟩ (by simp [*]) (by simp [*]; rfl) ?_) | refine OutOK.run (by simp [*]; rfl) ?_ | refine AW.ret ?_ | refine AW.skip ?_ | refine AW.exit ?_ | refine fin_r ?_ | refine fin_n ?_ | refine AW.block ?_ | refine blockQ_n ?_ | refine blockQ_r ?_ | refine blockQ_e ?_ | refine blockQ_o rfl ?_)
      simp [Try.f17, smps]
  | true =>
    have hB' := hB
    simp only [runB, Bool.and_eq_true, decide_eq_true_eq] at hB'
    obtain ⟨hg, h30⟩ := hB'
    rw [hg] at cv
    have hM : runM l xs = (runL l xs).1 := by simp [runM, hB]
    have hN : runN l xs = (runL l xs).2 := by simp [runN, hB]
    rw [hM, hN]
    have h16 := (goodS_at hg).1
    have cc := c_slices_Clone_impl_Sample_impl_Sample l (by omega)
    have h30' : ¬ (30 : Int) < xs.length := by omega
    obtain ⟨R, hR⟩ : ∃ R, runL l xs = R := ⟨_, rfl⟩
    rw [hR]
    have hR0 : Hd (R = ((runL l (xs.drop 0)).1, 0 + (runL l (xs.drop 0)).2)) := by simp [Hd, ← hR]
    have hs' : Hd (∀ s ∈ xs, stpW s) := hs
    have hg' : Hd (goodS l = true) := hg
    have hh' : Hd (∀ s ∈ l, SmpW s) := hh
    clear hB hM hN hR hg hh hs
    refine ACall.of (N := 44) tok Try.func17 rfl rfl rfl (by simp) ?_
    repeat' (first | with_reducible refine OutOK.done ?_ | refine thenQ_n ?_ | refine thenQ_r ?_ | refine thenQ_e ?_ | refine AW.seq ?_ | refine AW.reg tok (by simp [*]; rfl) ?_ | refine AW.ifB (by simp [*]; rfl) ?_ | refine IfG.t ?_ | refine IfG.f ?_ | (refine IfG.p (fun hg => ?_) (fun hg => ?_) <;> (try (have hg' := hg; simp at hg'))) | (refine IfG.n (fun hg => ?_) (fun hg => ?_) <;> (try (have hg' := hg; simp at hg'))) | (refine OutOK.gateP (fun hg => ?_) (fun hg => ?_) <;> (try (have hg' := hg; simp at hg'))) | (refine OutOK.gateN (fun hg => ?_) (fun hg => ?_) <;> (try (have hg' := hg; simp at hg'))) | (refine IfG.g (fun hg => ?_) (fun hg => ?_) <;> (try (have hg' := hg; simp at hg'))) | (refine OutOK.gate (fun hg => ?_) (fun hg => ?_) <;> (try (have hg' := hg; simp at hg'))) | (refine OutOK.callF [] (by simp [*]; rfl) (by simp [*]; rfl) (by simp [*]; rfl) hb72 (by apply cv <;> first | assumption | exact Hd.out (by assumption) | ((try (clear e0)); (try (clear e1)); (try (clear e2)); (try (clear e3)); (try (clear e4)); (try (clear e5)); (try (clear e6)); (try (clear e7)); (try (clear e8)); (try (clear e9)); (try (clear e10)); (try (clear e11)); omega)) ⟨by simp [*], by simp [*], by simp [*], by simp [*], by simp [*]⟩ (by simp [*]) (by simp [*]; rfl) ?_) | (refine OutOK.callF [] (by simp [*]; rfl) (by simp [*]; rfl) (by simp [*]; rfl) hb73 (by apply cc <;> first | assumption | exact Hd.out (by assumption) | ((try (clear e0)); (try (clear e1)); (try (clear e2)); (try (clear e3)); (try (clear e4)); (try (clear e5)); (try (clear e6)); (try (clear e7)); (try (clear e8)); (try (clear e9)); (try (clear e10)); (try (clear e11)); omega)) ⟨by simp [*], by simp [*], by simp [*], by simp [*], by simp [*]⟩ (by simp [*]) (by simp [*]; rfl) ?_) | refine OutOK.run (by simp [*]; rfl) ?_ | refine AW.ret ?_ | refine AW.skip ?_ | refine AW.exit ?_ | refine fin_r ?_ | refine fin_n ?_ | refine AW.block ?_ | refine blockQ_n ?_ | refine blockQ_r ?_ | refine blockQ_e ?_ | refine blockQ_o rfl ?_)
    refine AW.loopS (α := Nat × List Smp) (fun q => q.1 ≤ xs.length ∧ Hd (goodS q.2 = true) ∧ Hd (∀ s ∈ q.2, SmpW s) ∧ Hd (R = ((runL q.2 (xs.drop q.1)).1, q.1 + (runL q.2 (xs.drop q.1)).2))) (fun q => [(1, .c (.sl true 4 (stps xs))), (7, .rf 21000 []), (22, .c (.sl true 4 (stps xs))), (23, .c (.sc (.int .i64 (xs.length : Int)))), (24, .c (.sc (.int .i64 (q.1 : Int))))])
      (fun q => [(21000, .sv (.sl false 8 (smps q.2)))]) (fun q => xs.length - q.1) (0, l) ⟨Nat.zero_le _, hg', hh', hR0⟩ [] (by simp) ⟨by simp, by simp, by simp⟩ ?_
    rintro ⟨i, m⟩ ⟨hi, hg2, hh2, hR2⟩
    simp only at hi hg2 hh2 hR2
    clear cv cc hR0 hg' hh'
    rcases Nat.lt_or_ge i xs.length with hl | hl
    · have e1 : wrap64 ((i : Int) + 1) = ((i + 1 : Nat) : Int) := by rw [w64 (by ((try (clear e0)); (try (clear e1)); (try (clear e2)); (try (clear e3)); (try (clear e4)); (try (clear e5)); (try (clear e6)); (try (clear e7)); (try (clear e8)); (try (clear e9)); (try (clear e10)); (try (clear e11)); omega)) (by ((try (clear e0)); (try (clear e1)); (try (clear e2)); (try (clear e3)); (try (clear e4)); (try (clear e5)); (try (clear e6)); (try (clear e7)); (try (clear e8)); (try (clear e9)); (try (clear e10)); (try (clear e11)); omega))]; ((try (clear e0)); (try (clear e1)); (try (clear e2)); (try (clear e3)); (try (clear e4)); (try (clear e5)); (try (clear e6)); (try (clear e7)); (try (clear e8)); (try (clear e9)); (try (clear e10)); (try (clear e11)); omega)
      have hsw := hs'.out xs[i] (List.getElem_mem hl)
      have ca := c_impl_apply m xs[i].kd xs[i].sm xs[i].am xs[i].hol hg2.out hh2.out hsw
      cases hb : stB m xs[i] with
      | false =>
        have hR3 : R = (m, i) := by rw [hR2.out, runL_no hl hb]; rfl
        rw [show stepB m xs[i].kd xs[i].sm xs[i].am xs[i].hol = false from hb] at ca
        generalize stepL m xs[i].kd xs[i].sm xs[i].am xs[i].hol = sl at *
        subst hR3
        clear hb hsw
        repeat' (first | with_reducible refine OutOK.done ?_ | refine thenQ_n ?_ | refine thenQ_r ?_ | refine thenQ_e ?_ | refine AW.seq ?_ | refine AW.reg tok (by simp [*]; rfl) ?_ | refine AW.ifB (by simp [*]; rfl) ?_ | refine IfG.t ?_ | refine IfG.f ?_ | (refine IfG.p (fun hg => ?_) (fun hg => ?_) <;> (try (have hg' := hg; simp at hg'))) | (refine IfG.n (fun hg => ?_) (fun hg => ?_) <;> (try (have hg' := hg; simp at hg'))) | (refine OutOK.gateP (fun hg => ?_) (fun hg => ?_) <;> (try (have hg' := hg; simp at hg'))) | (refine OutOK.gateN (fun hg => ?_) (fun hg => ?_) <;> (try (have hg' := hg; simp at hg'))) | (refine IfG.g (fun hg => ?_) (fun hg => ?_) <;> (try (have hg' := hg; simp at hg'))) | (refine OutOK.gate (fun hg => ?_) (fun hg => ?_) <;> (try (have hg' := hg; simp at hg'))) | (refine OutOK.callF [] (by simp [*]; rfl) (by simp [*]; rfl) (by simp [*]; rfl) hb74 (by apply ca <;> first | assumption | exact Hd.out (by assumption) | ((try (clear e0)); (try (clear e1)); (try (clear e2)); (try (clear e3)); (try (clear e4)); (try (clear e5)); (try (clear e6)); (try (clear e7)); (try (clear e8)); (try (clear e9)); (try (clear e10)); (try (clear e11)); omega)) ⟨by simp [*], by simp [*], by simp [*], by simp [*], by simp [*]⟩ (by simp [*]) (by simp [*]; rfl) ?_) | refine OutOK.run (by simp [*]; rfl) ?_ | refine AW.ret ?_ | refine AW.skip ?_ | refine AW.exit ?_ | refine fin_r ?_ | refine fin_n ?_ | refine AW.block ?_ | refine blockQ_n ?_ | refine blockQ_r ?_ | refine blockQ_e ?_ | refine blockQ_o rfl ?_)
        simp [Try.f17]
      | true =>
        have hR3 := hR2.out
        rw [runL_yes hl hb] at hR3
        obtain ⟨k1, k2⟩ := stB_ok hh2.out hsw hb
        rw [show stepB m xs[i].kd xs[i].sm xs[i].am xs[i].hol = true from hb, show stepL m xs[i].kd xs[i].sm xs[i].am xs[i].hol = stL m xs[i] from rfl] at ca
        generalize stL m xs[i] = sl at *
        replace hR3 : Hd (R = ((runL sl (xs.drop (i + 1))).1, i + 1 + (runL sl (xs.drop (i + 1))).2)) := by
          rw [Hd, hR3]; simp only [Prod.mk.injEq, true_and]; omega
        replace k1 : Hd _ := k1
        replace k2 : Hd _ := k2
        clear hb hsw
        repeat' (first | with_reducible refine OutOK.done ?_ | refine thenQ_n ?_ | refine thenQ_r ?_ | refine thenQ_e ?_ | refine AW.seq ?_ | refine AW.reg tok (by simp [*]; rfl) ?_ | refine AW.ifB (by simp [*]; rfl) ?_ | refine IfG.t ?_ | refine IfG.f ?_ | (refine IfG.p (fun hg => ?_) (fun hg => ?_) <;> (try (have hg' := hg; simp at hg'))) | (refine IfG.n (fun hg => ?_) (fun hg => ?_) <;> (try (have hg' := hg; simp at hg'))) | (refine OutOK.gateP (fun hg => ?_) (fun hg => ?_) <;> (try (have hg' := hg; simp at hg'))) | (refine OutOK.gateN (fun hg => ?_) (fun hg => ?_) <;> (try (have hg' := hg; simp at hg'))) | (refine IfG.g (fun hg => ?_) (fun hg => ?_) <;> (try (have hg' := hg; simp at hg'))) | (refine OutOK.gate (fun hg => ?_) (fun hg => ?_) <;> (try (have hg' := hg; simp at hg'))) | (refine OutOK.callF [] (by simp [*]; rfl) (by simp [*]; rfl) (by simp [*]; rfl) hb74 (by apply ca <;> first | assumption | exact Hd.out (by assumption) | ((try (clear e0)); (try (clear e1)); (try (clear e2)); (try (clear e3)); (try (clear e4)); (try (clear e5)); (try (clear e6)); (try (clear e7)); (try (clear e8)); (try (clear e9)); (try (clear e10)); (try (clear e11)); omega)) ⟨by simp [*], by simp [*], by simp [*], by simp [*], by simp [*]⟩ (by simp [*]) (by simp [*]; rfl) ?_) | refine OutOK.run (by simp [*]; rfl) ?_ | refine AW.ret ?_ | refine AW.skip ?_ | refine AW.exit ?_ | refine fin_r ?_ | refine fin_n ?_ | refine AW.block ?_ | refine blockQ_n ?_ | refine blockQ_r ?_ | refine blockQ_e ?_ | refine blockQ_o rfl ?_)
        exact ⟨(i + 1, sl), ⟨hl, k1, k2, hR3⟩, ⟨[(21000, 32000)], by simp, by simp, by simp, by simp⟩, by simp only; ((try (clear e0)); (try (clear e1)); (try (clear e2)); (try (clear e3)); (try (clear e4)); (try (clear e5)); (try (clear e6)); (try (clear e7)); (try (clear e8)); (try (clear e9)); (try (clear e10)); (try (clear e11)); omega)⟩
    · have hii : i = xs.length := by ((try (clear e0)); (try (clear e1)); (try (clear e2)); (try (clear e3)); (try (clear e4)); (try (clear e5)); (try (clear e6)); (try (clear e7)); (try (clear e8)); (try (clear e9)); (try (clear e10)); (try (clear e11)); omega)
      subst hii
      have hR3 : R = (m, xs.length) := by rw [hR2.out, runL_end (Nat.le_refl _)]; rfl
      subst hR3
      clear hi hl
      repeat' (first | with_reducible refine OutOK.done ?_ | refine thenQ_n ?_ | refine thenQ_r ?_ | refine thenQ_e ?_ | refine AW.seq ?_ | refine AW.reg tok (by simp [*]; rfl) ?_ | refine AW.ifB (by simp [*]; rfl) ?_ | refine IfG.t ?_ | refine IfG.f ?_ | (refine IfG.p (fun hg => ?_) (fun hg => ?_) <;> (try (have hg' := hg; simp at hg'))) | (refine IfG.n (fun hg => ?_) (fun hg => ?_) <;> (try (have hg' := hg; simp at hg'))) | (refine OutOK.gateP (fun hg => ?_) (fun hg => ?_) <;> (try (have hg' := hg; simp at hg'))) | (refine OutOK.gateN (fun hg => ?_) (fun hg => ?_) <;> (try (have hg' := hg; simp at hg'))) | (refine IfG.g (fun hg => ?_) (fun hg => ?_) <;> (try (have hg' := hg; simp at hg'))) | (refine OutOK.gate (fun hg => ?_) (fun hg => ?_) <;> (try (have hg' := hg; simp at hg'))) | refine OutOK.run (by simp [*]; rfl) ?_ | refine AW.ret ?_ | refine AW.skip ?_ | refine AW.exit ?_ | refine fin_r ?_ | refine fin_n ?_ | refine AW.block ?_ | refine blockQ_n ?_ | refine blockQ_r ?_ | refine blockQ_e ?_ | refine blockQ_o rfl ?_)
      simp [Try.f17]
theorem c_spec_l20Run (l : List Smp) (xs : List Stp) (hg : goodS l = true) (hx : xs.length ≤ 30) (hh : ∀ s ∈ l, SmpW s) (hs : ∀ s ∈ xs, stpW s) :
    ACall Try.prog 75 [.v (.sl true 8 (smps l)), .v (.sl true 4 (stps xs))] [.x, .x] [.v (.sl false 8 (smps (runL l xs).1)), int (runL l xs).2] := by
  refine ACallX.one ?_
  have h16 := (goodS_at hg).1
  have b1 : l.length * 72 ≤ 140737488355328 := by omega
  have b2 : l.length ≤ 4611686018427387904 := by omega
  obtain ⟨R, hR⟩ : ∃ R, runL l xs = R := ⟨_, rfl⟩
  rw [hR]
  have hR0 : Hd (R = ((runL l (xs.drop 0)).1, 0 + (runL l (xs.drop 0)).2)) := by simp [Hd, ← hR]
  have hs' : Hd (∀ s ∈ xs, stpW s) := hs
  have hg' : Hd (goodS l = true) := hg
  have hh' : Hd (∀ s ∈ l, SmpW s) := hh
  clear hR hg hh hs
  refine ACallX.of (N := 36) tok Try.func75 rfl rfl rfl (by simp) ?_
  repeat' (first | with_reducible refine OutOK.done ?_ | refine thenQ_n ?_ | refine thenQ_r ?_ | refine thenQ_e ?_ | refine AW.seq ?_ | refine AW.reg tok (by simp [*]; rfl) ?_ | refine AW.ifB (by simp [*]; rfl) ?_ | refine IfG.t ?_ | refine IfG.f ?_ | (refine IfG.p (fun hg => ?_) (fun hg => ?_) <;> (try (have hg' := hg; simp at hg'))) | (refine IfG.n (fun hg => ?_) (fun hg => ?_) <;> (try (have hg' := hg; simp at hg'))) | (refine OutOK.gateP (fun hg => ?_) (fun hg => ?_) <;> (try (have hg' := hg; simp at hg'))) | (refine OutOK.gateN (fun hg => ?_) (fun hg => ?_) <;> (try (have hg' := hg; simp at hg'))) | (refine IfG.g (fun hg => ?_) (fun hg => ?_) <;> (try (have hg' := hg; simp at hg'))) | (refine OutOK.gate (fun hg => ?_) (fun hg => ?_) <;> (try (have hg' := hg; simp at hg'))) | refine OutOK.run (by simp [*]; rfl) ?_ | refine AW.ret ?_ | refine AW.skip ?_ | refine AW.exit ?_ | refine fin_r ?_ | refine fin_n ?_ | refine AW.block ?_ | refine blockQ_n ?_ | refine blockQ_r ?_ | refine blockQ_e ?_ | refine blockQ_o rfl ?_)
  refine AW.loopS (α := Nat × List Smp) (fun q => q.1 ≤ xs.length ∧ Hd (goodS q.2 = true) ∧ Hd (∀ s ∈ q.2, SmpW s) ∧ Hd (R = ((runL q.2 (xs.drop q.1)).1, q.1 + (runL q.2 (xs.drop q.1)).2))) (fun q => [(1, .c (.sl true 4 (stps xs))), (6, .rf 12000 []), (7, .c (.sc (.int .i64 (q.1 : Int))))])
    (fun q => [(12000, .sv (.sl false 8 (smps q.2)))]) (fun q => xs.length - q.1) (0, l) ⟨Nat.zero_le _, hg', hh', hR0⟩ [] (by simp) ⟨by simp, by simp, by simp⟩ ?_
  rintro ⟨i, m⟩ ⟨hi, hg2, hh2, hR2⟩
  simp only at hi hg2 hh2 hR2
  clear hR0 hg' hh' b1 b2
  rcases Nat.lt_or_ge i xs.length with hl | hl
  · have e1 : wrap64 ((i : Int) + 1) = ((i + 1 : Nat) : Int) := by rw [w64 (by ((try (clear e0)); (try (clear e1)); (try (clear e2)); (try (clear e3)); (try (clear e4)); (try (clear e5)); (try (clear e6)); (try (clear e7)); (try (clear e8)); (try (clear e9)); (try (clear e10)); (try (clear e11)); omega)) (by ((try (clear e0)); (try (clear e1)); (try (clear e2)); (try (clear e3)); (try (clear e4)); (try (clear e5)); (try (clear e6)); (try (clear e7)); (try (clear e8)); (try (clear e9)); (try (clear e10)); (try (clear e11)); omega))]; ((try (clear e0)); (try (clear e1)); (try (clear e2)); (try (clear e3)); (try (clear e4)); (try (clear e5)); (try (clear e6)); (try (clear e7)); (try (clear e8)); (try (clear e9)); (try (clear e10)); (try (clear e11)); omega)
    have hsw := hs'.out xs[i] (List.getElem_mem hl)
    have hm16 := (goodS_at hg2.out).1
    have ca := x_spec_l20Step m xs[i].kd xs[i].sm xs[i].am xs[i].hol (by ((try (clear e0)); (try (clear e1)); (try (clear e2)); (try (clear e3)); (try (clear e4)); (try (clear e5)); (try (clear e6)); (try (clear e7)); (try (clear e8)); (try (clear e9)); (try (clear e10)); (try (clear e11)); omega)) hh2.out hsw
    cases hb : stB m xs[i] with
    | false =>
      have hR3 : R = (m, i) := by rw [hR2.out, runL_no hl hb]; rfl
      rw [show stepB m xs[i].kd xs[i].sm xs[i].am xs[i].hol = false from hb] at ca
      generalize stepL m xs[i].kd xs[i].sm xs[i].am xs[i].hol = sl at *
      subst hR3
      clear hb hsw hm16
      repeat' (first | with_reducible refine OutOK.done ?_ | refine thenQ_n ?_ | refine thenQ_r ?_ | refine thenQ_e ?_ | refine AW.seq ?_ | refine AW.reg tok (by simp [*]; rfl) ?_ | refine AW.ifB (by simp [*]; rfl) ?_ | refine IfG.t ?_ | refine IfG.f ?_ | (refine IfG.p (fun hg => ?_) (fun hg => ?_) <;> (try (have hg' := hg; simp at hg'))) | (refine IfG.n (fun hg => ?_) (fun hg => ?_) <;> (try (have hg' := hg; simp at hg'))) | (refine OutOK.gateP (fun hg => ?_) (fun hg => ?_) <;> (try (have hg' := hg; simp at hg'))) | (refine OutOK.gateN (fun hg => ?_) (fun hg => ?_) <;> (try (have hg' := hg; simp at hg'))) | (refine IfG.g (fun hg => ?_) (fun hg => ?_) <;> (try (have hg' := hg; simp at hg'))) | (refine OutOK.gate (fun hg => ?_) (fun hg => ?_) <;> (try (have hg' := hg; simp at hg'))) | refine OutOK.run (by simp [*]; rfl) ?_ | refine AW.ret ?_ | refine AW.skip ?_ | refine AW.exit ?_ | refine fin_r ?_ | refine fin_n ?_ | refine AW.block ?_ | refine blockQ_n ?_ | refine blockQ_r ?_ | refine blockQ_e ?_ | refine blockQ_o rfl ?_)
      refine OutOK.callX [] (by simp [*]; rfl) (by simp [*]; rfl) (by simp [*]; rfl) hb69 (by apply ca <;> first | assumption | exact Hd.out (by assumption) | ((try (clear e0)); (try (clear e1)); (try (clear e2)); (try (clear e3)); (try (clear e4)); (try (clear e5)); (try (clear e6)); (try (clear e7)); (try (clear e8)); (try (clear e9)); (try (clear e10)); (try (clear e11)); omega)) ⟨by simp [*], by simp [*], by simp [*]⟩ (by simp [*]) (fun x hx => ?_)
      clear ca hx
      refine CallX.mk' ⟨by simp [*], by simp [*], by simp [*], by simp [*], by simp [*]⟩ (by simp [*]; rfl) ?_
      repeat' (first | with_reducible refine OutOK.done ?_ | refine thenQ_n ?_ | refine thenQ_r ?_ | refine thenQ_e ?_ | refine AW.seq ?_ | refine AW.reg tok (by simp [*]; rfl) ?_ | refine AW.ifB (by simp [*]; rfl) ?_ | refine IfG.t ?_ | refine IfG.f ?_ | (refine IfG.p (fun hg => ?_) (fun hg => ?_) <;> (try (have hg' := hg; simp at hg'))) | (refine IfG.n (fun hg => ?_) (fun hg => ?_) <;> (try (have hg' := hg; simp at hg'))) | (refine OutOK.gateP (fun hg => ?_) (fun hg => ?_) <;> (try (have hg' := hg; simp at hg'))) | (refine OutOK.gateN (fun hg => ?_) (fun hg => ?_) <;> (try (have hg' := hg; simp at hg'))) | (refine IfG.g (fun hg => ?_) (fun hg => ?_) <;> (try (have hg' := hg; simp at hg'))) | (refine OutOK.gate (fun hg => ?_) (fun hg => ?_) <;> (try (have hg' := hg; simp at hg'))) | refine OutOK.run (by simp [*]; rfl) ?_ | refine AW.ret ?_ | refine AW.skip ?_ | refine AW.exit ?_ | refine fin_r ?_ | refine fin_n ?_ | refine AW.block ?_ | refine blockQ_n ?_ | refine blockQ_r ?_ | refine blockQ_e ?_ | refine blockQ_o rfl ?_)
      exact ⟨(), trivial, by simp [Try.f75]⟩
    | true =>
      have hR3 := hR2.out
      rw [runL_yes hl hb] at hR3
      obtain ⟨k1, k2⟩ := stB_ok hh2.out hsw hb
      rw [show stepB m xs[i].kd xs[i].sm xs[i].am xs[i].hol = true from hb, show stepL m xs[i].kd xs[i].sm xs[i].am xs[i].hol = stL m xs[i] from rfl] at ca
      generalize stL m xs[i] = sl at *
      replace hR3 : Hd (R = ((runL sl (xs.drop (i + 1))).1, i + 1 + (runL sl (xs.drop (i + 1))).2)) := by
        rw [Hd, hR3]; simp only [Prod.mk.injEq, true_and]; omega
      replace k1 : Hd _ := k1
      replace k2 : Hd _ := k2
      clear hb hsw hm16
      repeat' (first | with_reducible refine OutOK.done ?_ | refine thenQ_n ?_ | refine thenQ_r ?_ | refine thenQ_e ?_ | refine AW.seq ?_ | refine AW.reg tok (by simp [*]; rfl) ?_ | refine AW.ifB (by simp [*]; rfl) ?_ | refine IfG.t ?_ | refine IfG.f ?_ | (refine IfG.p (fun hg => ?_) (fun hg => ?_) <;> (try (have hg' := hg; simp at hg'))) | (refine IfG.n (fun hg => ?_) (fun hg => ?_) <;> (try (have hg' := hg; simp at hg'))) | (refine OutOK.gateP (fun hg => ?_) (fun hg => ?_) <;> (try (have hg' := hg; simp at hg'))) | (refine OutOK.gateN (fun hg => ?_) (fun hg => ?_) <;> (try (have hg' := hg; simp at hg'))) | (refine IfG.g (fun hg => ?_) (fun hg => ?_) <;> (try (have hg' := hg; simp at hg'))) | (refine OutOK.gate (fun hg => ?_) (fun hg => ?_) <;> (try (have hg' := hg; simp at hg'))) | refine OutOK.run (by simp [*]; rfl) ?_ | refine AW.ret ?_ | refine AW.skip ?_ | refine AW.exit ?_ | refine fin_r ?_ | refine fin_n ?_ | refine AW.block ?_ | refine blockQ_n ?_ | refine blockQ_r ?_ | refine blockQ_e ?_ | refine blockQ_o rfl ?_)
      refine OutOK.callX [] (by simp [*]; rfl) (by simp [*]; rfl) (by simp [*]; rfl) hb69 (by apply ca <;> first | assumption | exact Hd.out (by assumption) | ((try (clear e0)); (try (clear e1)); (try (clear e2)); (try (clear e3)); (try (clear e4)); (try (clear e5)); (try (clear e6)); (try (clear e7)); (try (clear e8)); (try (clear e9)); (try (clear e10)); (try (clear e11)); omega)) ⟨by simp [*], by simp [*], by simp [*]⟩ (by simp [*]) (fun x hx => ?_)
      obtain ⟨-, -, t3⟩ := hx
      obtain rfl := t3 rfl
      clear ca t3
      refine CallX.mk' ⟨by simp [*], by simp [*], by simp [*], by simp [*], by simp [*]⟩ (by simp [*]; rfl) ?_
      repeat' (first | with_reducible refine OutOK.done ?_ | refine thenQ_n ?_ | refine thenQ_r ?_ | refine thenQ_e ?_ | refine AW.seq ?_ | refine AW.reg tok (by simp [*]; rfl) ?_ | refine AW.ifB (by simp [*]; rfl) ?_ | refine IfG.t ?_ | refine IfG.f ?_ | (refine IfG.p (fun hg => ?_) (fun hg => ?_) <;> (try (have hg' := hg; simp at hg'))) | (refine IfG.n (fun hg => ?_) (fun hg => ?_) <;> (try (have hg' := hg; simp at hg'))) | (refine OutOK.gateP (fun hg => ?_) (fun hg => ?_) <;> (try (have hg' := hg; simp at hg'))) | (refine OutOK.gateN (fun hg => ?_) (fun hg => ?_) <;> (try (have hg' := hg; simp at hg'))) | (refine IfG.g (fun hg => ?_) (fun hg => ?_) <;> (try (have hg' := hg; simp at hg'))) | (refine OutOK.gate (fun hg => ?_) (fun hg => ?_) <;> (try (have hg' := hg; simp at hg'))) | refine OutOK.run (by simp [*]; rfl) ?_ | refine AW.ret ?_ | refine AW.skip ?_ | refine AW.exit ?_ | refine fin_r ?_ | refine fin_n ?_ | refine AW.block ?_ | refine blockQ_n ?_ | refine blockQ_r ?_ | refine blockQ_e ?_ | refine blockQ_o rfl ?_)
      exact ⟨(i + 1, x), ⟨hl, k1, k2, hR3⟩, ⟨[(12000, 25000)], by simp, by simp, by simp, by simp⟩, by simp only; ((try (clear e0)); (try (clear e1)); (try (clear e2)); (try (clear e3)); (try (clear e4)); (try (clear e5)); (try (clear e6)); (try (clear e7)); (try (clear e8)); (try (clear e9)); (try (clear e10)); (try (clear e11)); omega)⟩
  · have hii : i = xs.length := by ((try (clear e0)); (try (clear e1)); (try (clear e2)); (try (clear e3)); (try (clear e4)); (try (clear e5)); (try (clear e6)); (try (clear e7)); (try (clear e8)); (try (clear e9)); (try (clear e10)); (try (clear e11)); omega)
    subst hii
    have hR3 : R = (m, xs.length) := by rw [hR2.out, runL_end (Nat.le_refl _)]; rfl
    subst hR3
    clear hi hl
    repeat' (first | with_reducible refine OutOK.done ?_ | refine thenQ_n ?_ | refine thenQ_r ?_ | refine thenQ_e ?_ | refine AW.seq ?_ | refine AW.reg tok (by simp [*]; rfl) ?_ | refine AW.ifB (by simp [*]; rfl) ?_ | refine IfG.t ?_ | refine IfG.f ?_ | (refine IfG.p (fun hg => ?_) (fun hg => ?_) <;> (try (have hg' := hg; simp at hg'))) | (refine IfG.n (fun hg => ?_) (fun hg => ?_) <;> (try (have hg' := hg; simp at hg'))) | (refine OutOK.gateP (fun hg => ?_) (fun hg => ?_) <;> (try (have hg' := hg; simp at hg'))) | (refine OutOK.gateN (fun hg => ?_) (fun hg => ?_) <;> (try (have hg' := hg; simp at hg'))) | (refine IfG.g (fun hg => ?_) (fun hg => ?_) <;> (try (have hg' := hg; simp at hg'))) | (refine OutOK.gate (fun hg => ?_) (fun hg => ?_) <;> (try (have hg' := hg; simp at hg'))) | refine OutOK.run (by simp [*]; rfl) ?_ | refine AW.ret ?_ | refine AW.skip ?_ | refine AW.exit ?_ | refine fin_r ?_ | refine fin_n ?_ | refine AW.block ?_ | refine blockQ_n ?_ | refine blockQ_r ?_ | refine blockQ_e ?_ | refine blockQ_o rfl ?_)
    exact ⟨(), trivial, by simp [Try.f75]⟩
theorem c_spec_RunSteps (l : List Smp) (xs : List Stp) (h : l.length ≤ 1000000000) (hx : xs.length ≤ 1000000000) (hh : ∀ s ∈ l, SmpW s) (hs : ∀ s ∈ xs, stpW s) :
    ACall Try.prog 18 [.v (.sl true 8 (smps l)), .v (.sl true 4 (stps xs))] [.x, .x] [.v (.sl false 8 (smps (runM l xs))), int (runN l xs), boo (runB l xs)] := by
  have cv := c_spec_l20Good l (by omega) hh
  cases hB : runB l xs with
  | false =>
    rw [show runM l xs = [] by simp [runM, hB], show runN l xs = 0 by simp [runN, hB]]
    cases hg : goodS l with
    | false =>
      rw [hg] at cv
      clear hB hg hh hs
      refine ACall.of (N := 26) tok Try.func18 rfl rfl rfl (by simp) ?_
      repeat' (first | with_reducible refine OutOK.done ?_ | refine thenQ_n ?_ | refine thenQ_r ?_ | refine thenQ_e ?_ | refine AW.seq ?_ | refine AW.reg tok (by simp [*]; rfl) ?_ | refine AW.ifB (by simp [*]; rfl) ?_ | refine IfG.t ?_ | refine IfG.f ?_ | (refine IfG.p (fun hg => ?_) (fun hg => ?_) <;> (try (have hg' := hg; simp at hg'))) | (refine IfG.n (fun hg => ?_) (fun hg => ?_) <;> (try (have hg' := hg; simp at hg'))) | (refine OutOK.gateP (fun hg => ?_) (fun hg => ?_) <;> (try (have hg' := hg; simp at hg'))) | (refine OutOK.gateN (fun hg => ?_) (fun hg => ?_) <;> (try (have hg' := hg; simp at hg'))) | (refine IfG.g (fun hg => ?_) (fun hg => ?_) <;> (try (have hg' := hg; simp at hg'))) | (refine OutOK.gate (fun hg => ?_) (fun hg => ?_) <;> (try (have hg' := hg; simp at hg'))) | (refine OutOK.callF [] (by simp [*]; rfl) (by simp [*]; rfl) (by simp [*]; rfl) hb70 (by apply cv <;> first | assumption | exact Hd.out (by assumption) | ((try (clear e0)); (try (clear e1)); (try (clear e2)); (try (clear e3)); (try (clear e4)); (try (clear e5)); (try (clear e6)); (try (clear e7)); (try (clear e8)); (try (clear e9)); (try (clear e10)); (try (clear e11)); omega)) ⟨by simp [*], by simp [*], by simp [*], by simp [*], by simp [*]⟩ (by simp [*]) (by simp [*]; rfl) ?_) | refine OutOK.run (by simp [*]; rfl) ?_ | refine AW.ret ?_ | refine AW.skip ?_ | refine AW.exit ?_ | refine fin_r ?_ | refine fin_n ?_ | refine AW.block ?_ | refine blockQ_n ?_ | refine blockQ_r ?_ | refine blockQ_e ?_ | refine blockQ_o rfl ?_)
      simp [Try.f18, smps]
    | true =>
      rw [hg] at cv
      have h30 : (30 : Int) < xs.length := by simp [runB, hg] at hB; omega
      clear hB hg hh hs
      refine ACall.of (N := 26) tok Try.func18 rfl rfl rfl (by simp) ?_
      repeat' (first | with_reducible refine OutOK.done ?_ | refine thenQ_n ?_ | refine thenQ_r ?_ | refine thenQ_e ?_ | refine AW.seq ?_ | refine AW.reg tok (by simp [*]; rfl) ?_ | refine AW.ifB (by simp [*]; rfl) ?_ | refine IfG.t ?_ | refine IfG.f ?_ | (refine IfG.p (fun hg => ?_) (fun hg => ?_) <;> (try (have hg' := hg; simp at hg'))) | (refine IfG.n (fun hg => ?_) (fun hg => ?_) <;> (try (have hg' := hg; simp at hg'))) | (refine OutOK.gateP (fun hg => ?_) (fun hg => ?_) <;> (try (have hg' := hg; simp at hg'))) | (refine OutOK.gateN (fun hg => ?_) (fun hg => ?_) <;> (try (have hg' := hg; simp at hg'))) | (refine IfG.g (fun hg => ?_) (fun hg => ?_) <;> (try (have hg' := hg; simp at hg'))) | (refine OutOK.gate (fun hg => ?_) (fun hg => ?_) <;> (try (have hg' := hg; simp at hg'))) | (refine OutOK.callF [] (by simp [*]; rfl) (by simp [*]; rfl) (by simp [*]; rfl) hb70 (by apply cv <;> first | assumption | exact Hd.out (by assumption) | ((try (clear e0)); (try (clear e1)); (try (clear e2)); (try (clear e3)); (try (clear e4)); (try (clear e5)); (try (clear e6)); (try (clear e7)); (try (clear e8)); (try (clear e9)); (try (clear e10)); (try (clear e11)); omega)) ⟨by simp [*], by simp [*], by simp [*], by simp [*], by simp [*]⟩ (by simp [*]) (by simp [*]; rfl) ?_) | refine OutOK.run (by simp [*]; rfl) ?_ | refine AW.ret ?_ | refine AW.skip ?_ | refine AW.exit ?_ | refine fin_r ?_ | refine fin_n ?_ | refine AW.block ?_ | refine blockQ_n ?_ | refine blockQ_r ?_ | refine blockQ_e ?_ | refine blockQ_o rfl ?_)
      simp [Try.f18, smps]
  | true =>
    have hB' := hB
    simp only [runB, Bool.and_eq_true, decide_eq_true_eq] at hB'
    obtain ⟨hg, h30⟩ := hB'
    rw [hg] at cv
    rw [show runM l xs = (runL l xs).1 by simp [runM, hB], show runN l xs = (runL l xs).2 by simp [runN, hB]]
    have cr := c_spec_l20Run l xs hg h30 hh hs
    have h30' : ¬ (30 : Int) < xs.length := by omega
    generalize runL l xs = R at *
    clear hB hg hh hs
    refine ACall.of (N := 26) tok Try.func18 rfl rfl rfl (by simp) ?_
    repeat' (first | with_reducible refine OutOK.done ?_ | refine thenQ_n ?_ | refine thenQ_r ?_ | refine thenQ_e ?_ | refine AW.seq ?_ | refine AW.reg tok (by simp [*]; rfl) ?_ | refine AW.ifB (by simp [*]; rfl) ?_ | refine IfG.t ?_ | refine IfG.f ?_ | (refine IfG.p (fun hg => ?_) (fun hg => ?_) <;> (try (have hg' := hg; simp at hg'))) | (refine IfG.n (fun hg => ?_) (fun hg => ?_) <;> (try (have hg' := hg; simp at hg'))) | (refine OutOK.gateP (fun hg => ?_) (fun hg => ?_) <;> (try (have hg' := hg; simp at hg'))) | (refine OutOK.gateN (fun hg => ?_) (fun hg => ?_) <;> (try (have hg' := hg; simp at hg'))) | (refine IfG.g (fun hg => ?_) (fun hg => ?_) <;> (try (have hg' := hg; simp at hg'))) | (refine OutOK.gate (fun hg => ?_) (fun hg => ?_) <;> (try (have hg' := hg; simp at hg'))) | (refine OutOK.callF [] (by simp [*]; rfl) (by simp [*]; rfl) (by simp [*]; rfl) hb70 (by apply cv <;> first | assumption | exact Hd.out (by assumption) | ((try (clear e0)); (try (clear e1)); (try (clear e2)); (try (clear e3)); (try (clear e4)); (try (clear e5)); (try (clear e6)); (try (clear e7)); (try (clear e8)); (try (clear e9)); (try (clear e10)); (try (clear e11)); omega)) ⟨by simp [*], by simp [*], by simp [*], by simp [*], by simp [*]⟩ (by simp [*]) (by simp [*]; rfl) ?_) | (refine OutOK.callF [] (by simp [*]; rfl) (by simp [*]; rfl) (by simp [*]; rfl) hb75 (by apply cr <;> first | assumption | exact Hd.out (by assumption) | ((try (clear e0)); (try (clear e1)); (try (clear e2)); (try (clear e3)); (try (clear e4)); (try (clear e5)); (try (clear e6)); (try (clear e7)); (try (clear e8)); (try (clear e9)); (try (clear e10)); (try (clear e11)); omega)) ⟨by simp [*], by simp [*], by simp [*], by simp [*], by simp [*]⟩ (by simp [*]) (by simp [*]; rfl) ?_) | refine OutOK.run (by simp [*]; rfl) ?_ | refine AW.ret ?_ | refine AW.skip ?_ | refine AW.exit ?_ | refine fin_r ?_ | refine fin_n ?_ | refine AW.block ?_ | refine blockQ_n ?_ | refine blockQ_r ?_ | refine blockQ_e ?_ | refine blockQ_o rfl ?_)
    simp [Try.f18]
end Go.Proofs.Ytodombkmnnggeaa.EngS


set_option linter.unusedSimpArgs false
set_option linter.unusedVariables false
set_option maxHeartbeats 4000000
set_option maxRecDepth 10000
namespace Go.Proofs.Ytodombkmnnggeaa.EngS
open Go Go.Proofs Go.Eng Go.RowKit
attribute [local irreducible] Go.RowKit.wrap64
def bys (xs : List Int) : List PV := xs.map fun x => .sc (.int .u8 x)
@[simp] theorem bys_len (xs) : (bys xs).length = xs.length := by simp [bys]
@[simp] theorem bys_get (xs : List Int) (i : Nat) : (bys xs)[i]? = (xs[i]?).map fun x => .sc (.int .u8 x) := by simp [bys]
@[simp] theorem bys_at (xs : List Int) (i : Nat) (h : i < (bys xs).length) : (bys xs)[i] = .sc (.int .u8 (xs[i]'(by simpa using h))) := by simp [bys]
@[simp] theorem bys_frz (xs) : PV.frzs (bys xs) = bys xs := by simp [bys]
abbrev curP (code : List Int) (a s : Int) : List PV := [.sl true 1 (bys code), .sc (.int .i64 a), .sc (.int .u64 s)]
def nxB (code : List Int) (a : Int) : Int := if a < (code.length : Int) then wrap64 (code[a.toNat]?.getD 0) else 0
def nxS (code : List Int) (a s : Int) : Int := IntKind.u64.wrap (IntKind.u64.wrap (IntKind.u64.wrap (s * 6364136223846793005) + IntKind.u64.wrap (nxB code a)) + 876876)
def nxV (code : List Int) (a s : Int) : Int := if a + 1 ≤ (code.length : Int) then nxB code a else wrap64 (IntKind.u64.wrap (((((nxS code a s).fdiv (2 ^ min 40 IntKind.u64.bits) % 2 ^ IntKind.u64.bits).toNat &&& 255 % 2 ^ IntKind.u64.bits : Nat)) : Int))
theorem u64_small (n : Nat) (h : n ≤ 255) : wrap64 (IntKind.u64.wrap (n : Int)) = (n : Int) := by
  have : IntKind.u64.wrap (n : Int) = (n : Int) := by
    simp [IntKind.wrap, IntKind.signed, IntKind.bits]
    omega
  rw [this]
  exact w64 (by omega) (by omega)
def BytesOK (code : List Int) : Prop := ∀ x ∈ code, 0 ≤ x ∧ x ≤ 255
theorem nxB_le {code : List Int} (hb : BytesOK code) (a : Int) (h0 : 0 ≤ a) : 0 ≤ nxB code a ∧ nxB code a ≤ 255 := by
  unfold nxB
  split
  · have hl : a.toNat < code.length := by omega
    rw [List.getElem?_eq_getElem hl]
    have := hb code[a.toNat] (List.getElem_mem hl)
    simp only [Option.getD_some]
    rw [w64 (by omega) (by omega)]
    exact this
  · omega
theorem nxV_le {code : List Int} (hb : BytesOK code) (a s : Int) (h0 : 0 ≤ a) : 0 ≤ nxV code a s ∧ nxV code a s ≤ 255 := by
  unfold nxV
  split
  · exact nxB_le hb a h0
  · have h := Nat.and_le_right (n := ((nxS code a s).fdiv (2 ^ min 40 IntKind.u64.bits) % 2 ^ IntKind.u64.bits).toNat) (m := 255 % 2 ^ IntKind.u64.bits)
    have h2 : 255 % 2 ^ IntKind.u64.bits = 255 := by decide
    rw [h2] at h ⊢
    rw [u64_small _ h]
    omega
theorem c_spec_l1Cur_next (code : List Int) (a s : Int) (h0 : 0 ≤ a) (h1 : a ≤ 1000000000000000) (hc : code.length ≤ 9223372036854775807) : ACall Try.prog 107 [.p (curP code a s)] [.p (curP code (a + 1) (nxS code a s))] [int (nxV code a s)] := by
  have e1 : wrap64 (a + 1) = a + 1 := w64 (by omega) (by omega)
  refine ACall.of (N := 62) tok Try.func107 rfl rfl rfl (by simp) ?_
  repeat' (first | with_reducible refine OutOK.done ?_ | refine thenQ_n ?_ | refine thenQ_r ?_ | refine thenQ_e ?_ | refine AW.seq ?_ | refine AW.dreg tok mixed [7, 8]  [(0, false), (1, false), (2, false), (4, false), (5, false), (6, false), (3, false), (7, true), (8, true), (9, false)] (by decide +kernel) rfl (by simp [*]; rfl) ?_ | refine AW.dreg tok mixed [7]  [(0, false), (1, false), (2, false), (4, false), (5, false), (6, false), (3, false), (7, true), (8, false), (9, false), (10, false), (11, false)] (by decide +kernel) rfl (by simp [*]; rfl) ?_ | refine AW.dreg tok mixed [7, 8]  [(0, false), (1, false), (2, false), (4, false), (5, false), (6, false), (3, false), (7, true), (8, true), (9, false)] (by decide +kernel) rfl (by simp [*]; rfl) ?_ | refine AW.reg tok (by simp [*]; rfl) ?_ | refine AW.ifB (by simp [*]; rfl) ?_ | refine IfG.t ?_ | refine IfG.f ?_ | (refine IfG.p (fun hg => ?_) (fun hg => ?_) <;> (try (have hg' := hg; simp at hg'))) | (refine IfG.n (fun hg => ?_) (fun hg => ?_) <;> (try (have hg' := hg; simp at hg'))) | (refine OutOK.gateP (fun hg => ?_) (fun hg => ?_) <;> (try (have hg' := hg; simp at hg'))) | (refine OutOK.gateN (fun hg => ?_) (fun hg => ?_) <;> (try (have hg' := hg; simp at hg'))) | (refine IfG.g (fun hg => ?_) (fun hg => ?_) <;> (try (have hg' := hg; simp at hg'))) | (refine OutOK.gate (fun hg => ?_) (fun hg => ?_) <;> (try (have hg' := hg; simp at hg'))) | refine OutOK.run (by simp [*]; rfl) ?_ | refine AW.ret ?_ | refine AW.skip ?_ | refine AW.exit ?_ | refine fin_r ?_ | refine fin_n ?_ | refine AW.block ?_ | refine blockQ_n ?_ | refine blockQ_r ?_ | refine blockQ_e ?_ | refine blockQ_o rfl ?_)
  all_goals simp [Try.f107, nxV, nxS, nxB, *]
theorem x_spec_l1Cur_next (code : List Int) (a s : Int) (h0 : 0 ≤ a) (h1 : a ≤ 1000000000000) (hc : code.length ≤ 9223372036854775807) (hb : BytesOK code) :
    ACallX Try.prog 107 [.p (curP code a s)] (fun x : Int × Int => 0 ≤ x.2 ∧ x.2 ≤ 255) (fun x => [.p (curP code (a + 1) x.1)]) (fun x => [int x.2]) :=
  ACallX.imp (c_spec_l1Cur_next code a s h0 (by omega) hc).x (fun _ => (nxS code a s, nxV code a s)) (fun _ _ => nxV_le hb a s h0) (fun _ _ => rfl) (fun _ _ => rfl)
theorem tmod_in {v n : Int} (h : 0 ≤ v) (hn : 0 < n) : 0 ≤ Int.tmod v n ∧ Int.tmod v n < n := by
  rw [Int.tmod_eq_emod_of_nonneg h]
  exact ⟨Int.emod_nonneg _ (by omega), Int.emod_lt_of_pos _ hn⟩
theorem x_spec_l1Cur_pick (code : List Int) (a s n : Int) (h0 : 0 ≤ a) (h1 : a ≤ 900000000000) (hc : code.length ≤ 9223372036854775807) (hb : BytesOK code) (hn : 1 < n) (hn' : n ≤ 1000000) :
    ACallX Try.prog 67 [.p (curP code a s), int n] (fun x : Int × Int × Int => a ≤ x.1 ∧ x.1 ≤ a + 2 ∧ 0 ≤ x.2.2 ∧ x.2.2 < n) (fun x => [.p (curP code x.1 x.2.1), .x]) (fun x => [int x.2.2]) := by
  have e1 : ¬ n ≤ 1 := by omega
  have e3 : ¬ n = 0 := by omega
  by_cases e2 : 200 < n
  · refine ACallX.of (N := 20) tok Try.func67 rfl rfl rfl (by simp) ?_
    repeat' (first | with_reducible refine OutOK.done ?_ | refine thenQ_n ?_ | refine thenQ_r ?_ | refine thenQ_e ?_ | refine AW.seq ?_ | refine AW.reg tok (by simp [*]; rfl) ?_ | refine AW.ifB (by simp [*]; rfl) ?_ | refine IfG.t ?_ | refine IfG.f ?_ | (refine IfG.p (fun hg => ?_) (fun hg => ?_) <;> (try (have hg' := hg; simp at hg'))) | (refine IfG.n (fun hg => ?_) (fun hg => ?_) <;> (try (have hg' := hg; simp at hg'))) | (refine OutOK.gateP (fun hg => ?_) (fun hg => ?_) <;> (try (have hg' := hg; simp at hg'))) | (refine OutOK.gateN (fun hg => ?_) (fun hg => ?_) <;> (try (have hg' := hg; simp at hg'))) | (refine IfG.g (fun hg => ?_) (fun hg => ?_) <;> (try (have hg' := hg; simp at hg'))) | (refine OutOK.gate (fun hg => ?_) (fun hg => ?_) <;> (try (have hg' := hg; simp at hg'))) | (refine OutOK.callX [] (by simp [*]; rfl) (by simp [*]; rfl) (by simp [*]; rfl) hb107 (by apply x_spec_l1Cur_next <;> first | assumption | exact Hd.out (by assumption) | ((try (clear e0)); (try (clear e1)); (try (clear e2)); (try (clear e3)); (try (clear e4)); (try (clear e5)); (try (clear e6)); (try (clear e7)); (try (clear e8)); (try (clear e9)); (try (clear e10)); (try (clear e11)); omega)) ⟨by simp [*], by simp [*], by simp [*]⟩ (by simp [*]) (fun x hx => CallX.mk' ⟨by simp [*], by simp [*], by simp [*], by simp [*], by simp [*]⟩ (by simp [*]; rfl) ?_)) | refine OutOK.run (by simp [*]; rfl) ?_ | refine AW.ret ?_ | refine AW.skip ?_ | refine AW.exit ?_ | refine fin_r ?_ | refine fin_n ?_ | refine AW.block ?_ | refine blockQ_n ?_ | refine blockQ_r ?_ | refine blockQ_e ?_ | refine blockQ_o rfl ?_)
    rename_i x1 hx1
    have hv := tmod_in (v := wrap64 (wrap64 (x1.2 * 256) + x.2)) (n := n) (by rw [w64 (x := x1.2 * 256) (by omega) (by omega), w64 (by omega) (by omega)]; omega) (by omega)
    exact ⟨(a + 1 + 1, x.1, Int.tmod (wrap64 (wrap64 (x1.2 * 256) + x.2)) n), ⟨by simp only; omega, by simp only; omega, hv.1, hv.2⟩, by simp [Try.f67]⟩
  · refine ACallX.of (N := 20) tok Try.func67 rfl rfl rfl (by simp) ?_
    repeat' (first | with_reducible refine OutOK.done ?_ | refine thenQ_n ?_ | refine thenQ_r ?_ | refine thenQ_e ?_ | refine AW.seq ?_ | refine AW.reg tok (by simp [*]; rfl) ?_ | refine AW.ifB (by simp [*]; rfl) ?_ | refine IfG.t ?_ | refine IfG.f ?_ | (refine IfG.p (fun hg => ?_) (fun hg => ?_) <;> (try (have hg' := hg; simp at hg'))) | (refine IfG.n (fun hg => ?_) (fun hg => ?_) <;> (try (have hg' := hg; simp at hg'))) | (refine OutOK.gateP (fun hg => ?_) (fun hg => ?_) <;> (try (have hg' := hg; simp at hg'))) | (refine OutOK.gateN (fun hg => ?_) (fun hg => ?_) <;> (try (have hg' := hg; simp at hg'))) | (refine IfG.g (fun hg => ?_) (fun hg => ?_) <;> (try (have hg' := hg; simp at hg'))) | (refine OutOK.gate (fun hg => ?_) (fun hg => ?_) <;> (try (have hg' := hg; simp at hg'))) | (refine OutOK.callX [] (by simp [*]; rfl) (by simp [*]; rfl) (by simp [*]; rfl) hb107 (by apply x_spec_l1Cur_next <;> first | assumption | exact Hd.out (by assumption) | ((try (clear e0)); (try (clear e1)); (try (clear e2)); (try (clear e3)); (try (clear e4)); (try (clear e5)); (try (clear e6)); (try (clear e7)); (try (clear e8)); (try (clear e9)); (try (clear e10)); (try (clear e11)); omega)) ⟨by simp [*], by simp [*], by simp [*]⟩ (by simp [*]) (fun x hx => CallX.mk' ⟨by simp [*], by simp [*], by simp [*], by simp [*], by simp [*]⟩ (by simp [*]; rfl) ?_)) | refine OutOK.run (by simp [*]; rfl) ?_ | refine AW.ret ?_ | refine AW.skip ?_ | refine AW.exit ?_ | refine fin_r ?_ | refine fin_n ?_ | refine AW.block ?_ | refine blockQ_n ?_ | refine blockQ_r ?_ | refine blockQ_e ?_ | refine blockQ_o rfl ?_)
    have hv := tmod_in (v := x.2) (n := n) (by omega) (by omega)
    exact ⟨(a + 1, x.1, Int.tmod x.2 n), ⟨by simp only; omega, by simp only; omega, hv.1, hv.2⟩, by simp [Try.f67]⟩
theorem x_pickG (code : List Int) (a s n : Int) (h0 : 0 ≤ a) (h1 : a ≤ 900000000000) (hc : code.length ≤ 9223372036854775807) (hb : BytesOK code) (hn' : n ≤ 1000000) :
    ACallX Try.prog 67 [.p (curP code a s), int n] (fun x : Int × Int × Int => a ≤ x.1 ∧ x.1 ≤ a + 2 ∧ 0 ≤ x.2.2 ∧ (x.2.2 < n ∨ x.2.2 = 0)) (fun x => [.p (curP code x.1 x.2.1), .x]) (fun x => [int x.2.2]) := by
  by_cases hn : 1 < n
  · exact (x_spec_l1Cur_pick code a s n h0 h1 hc hb hn hn').imp id (fun x hx => ⟨hx.1, hx.2.1, hx.2.2.1, .inl hx.2.2.2⟩) (fun _ _ => rfl) (fun _ _ => rfl)
  · have e1 : n ≤ 1 := by omega
    refine ACallX.of (N := 20) tok Try.func67 rfl rfl rfl (by simp) ?_
    repeat' (first | with_reducible refine OutOK.done ?_ | refine thenQ_n ?_ | refine thenQ_r ?_ | refine thenQ_e ?_ | refine AW.seq ?_ | refine AW.reg tok (by simp [*]; rfl) ?_ | refine AW.ifB (by simp [*]; rfl) ?_ | refine IfG.t ?_ | refine IfG.f ?_ | (refine IfG.p (fun hg => ?_) (fun hg => ?_) <;> (try (have hg' := hg; simp at hg'))) | (refine IfG.n (fun hg => ?_) (fun hg => ?_) <;> (try (have hg' := hg; simp at hg'))) | (refine OutOK.gateP (fun hg => ?_) (fun hg => ?_) <;> (try (have hg' := hg; simp at hg'))) | (refine OutOK.gateN (fun hg => ?_) (fun hg => ?_) <;> (try (have hg' := hg; simp at hg'))) | (refine IfG.g (fun hg => ?_) (fun hg => ?_) <;> (try (have hg' := hg; simp at hg'))) | (refine OutOK.gate (fun hg => ?_) (fun hg => ?_) <;> (try (have hg' := hg; simp at hg'))) | refine OutOK.run (by simp [*]; rfl) ?_ | refine AW.ret ?_ | refine AW.skip ?_ | refine AW.exit ?_ | refine fin_r ?_ | refine fin_n ?_ | refine AW.block ?_ | refine blockQ_n ?_ | refine blockQ_r ?_ | refine blockQ_e ?_ | refine blockQ_o rfl ?_)
    exact ⟨(a, s, 0), ⟨by simp, by simp only; omega, by simp, .inr rfl⟩, by simp [Try.f67]⟩
theorem x_spec_l1Cur_one (code : List Int) (a s n : Int) (h0 : 0 ≤ a) (h1 : a ≤ 900000000000) (hc : code.length ≤ 9223372036854775807) (hb : BytesOK code) (hn : 1 < n) (hn' : n ≤ 1000000) :
    ACallX Try.prog 71 [.p (curP code a s), int n] (fun x : Int × Int × Bool => a ≤ x.1 ∧ x.1 ≤ a + 2) (fun x => [.p (curP code x.1 x.2.1), .x]) (fun x => [boo x.2.2]) := by
  refine ACallX.of (N := 9) tok Try.func71 rfl rfl rfl (by simp) ?_
  repeat' (first | with_reducible refine OutOK.done ?_ | refine thenQ_n ?_ | refine thenQ_r ?_ | refine thenQ_e ?_ | refine AW.seq ?_ | refine AW.reg tok (by simp [*]; rfl) ?_ | refine AW.ifB (by simp [*]; rfl) ?_ | refine IfG.t ?_ | refine IfG.f ?_ | (refine IfG.p (fun hg => ?_) (fun hg => ?_) <;> (try (have hg' := hg; simp at hg'))) | (refine IfG.n (fun hg => ?_) (fun hg => ?_) <;> (try (have hg' := hg; simp at hg'))) | (refine OutOK.gateP (fun hg => ?_) (fun hg => ?_) <;> (try (have hg' := hg; simp at hg'))) | (refine OutOK.gateN (fun hg => ?_) (fun hg => ?_) <;> (try (have hg' := hg; simp at hg'))) | (refine IfG.g (fun hg => ?_) (fun hg => ?_) <;> (try (have hg' := hg; simp at hg'))) | (refine OutOK.gate (fun hg => ?_) (fun hg => ?_) <;> (try (have hg' := hg; simp at hg'))) | (refine OutOK.callX [] (by simp [*]; rfl) (by simp [*]; rfl) (by simp [*]; rfl) hb67 (by apply x_spec_l1Cur_pick <;> first | assumption | exact Hd.out (by assumption) | ((try (clear e0)); (try (clear e1)); (try (clear e2)); (try (clear e3)); (try (clear e4)); (try (clear e5)); (try (clear e6)); (try (clear e7)); (try (clear e8)); (try (clear e9)); (try (clear e10)); (try (clear e11)); omega)) ⟨by simp [*], by simp [*], by simp [*]⟩ (by simp [*]) (fun x hx => CallX.mk' ⟨by simp [*], by simp [*], by simp [*], by simp [*], by simp [*]⟩ (by simp [*]; rfl) ?_)) | refine OutOK.run (by simp [*]; rfl) ?_ | refine AW.ret ?_ | refine AW.skip ?_ | refine AW.exit ?_ | refine fin_r ?_ | refine fin_n ?_ | refine AW.block ?_ | refine blockQ_n ?_ | refine blockQ_r ?_ | refine blockQ_e ?_ | refine blockQ_o rfl ?_)
  exact ⟨(x.1, x.2.1, decide (x.2.2 = 0)), ⟨hx.1, hx.2.1⟩, by simp [Try.f71]⟩
theorem x_spec_l1Cur_among (code : List Int) (a s : Int) (xs : List Int) (q : Int → Prop) (h0 : 0 ≤ a) (h1 : a ≤ 900000000000) (hc : code.length ≤ 9223372036854775807) (hb : BytesOK code) (hn : 1 < xs.length) (hn' : xs.length ≤ 1000000) (hq : ∀ y ∈ xs, q y) :
    ACallX Try.prog 105 [.p (curP code a s), .v (.sl false 1 (ints xs))] (fun x : Int × Int × Int => a ≤ x.1 ∧ x.1 ≤ a + 2 ∧ q x.2.2) (fun x => [.p (curP code x.1 x.2.1), .x]) (fun x => [int x.2.2]) := by
  replace hq : Hd _ := hq
  have hn2 : (1 : Int) < xs.length := by omega
  refine ACallX.of (N := 12) tok Try.func105 rfl rfl rfl (by simp) ?_
  repeat' (first | with_reducible refine OutOK.done ?_ | refine thenQ_n ?_ | refine thenQ_r ?_ | refine thenQ_e ?_ | refine AW.seq ?_ | refine AW.reg tok (by simp [*]; rfl) ?_ | refine AW.ifB (by simp [*]; rfl) ?_ | refine IfG.t ?_ | refine IfG.f ?_ | (refine IfG.p (fun hg => ?_) (fun hg => ?_) <;> (try (have hg' := hg; simp at hg'))) | (refine IfG.n (fun hg => ?_) (fun hg => ?_) <;> (try (have hg' := hg; simp at hg'))) | (refine OutOK.gateP (fun hg => ?_) (fun hg => ?_) <;> (try (have hg' := hg; simp at hg'))) | (refine OutOK.gateN (fun hg => ?_) (fun hg => ?_) <;> (try (have hg' := hg; simp at hg'))) | (refine IfG.g (fun hg => ?_) (fun hg => ?_) <;> (try (have hg' := hg; simp at hg'))) | (refine OutOK.gate (fun hg => ?_) (fun hg => ?_) <;> (try (have hg' := hg; simp at hg'))) | refine OutOK.run (by simp [*]; rfl) ?_ | refine AW.ret ?_ | refine AW.skip ?_ | refine AW.exit ?_ | refine fin_r ?_ | refine fin_n ?_ | refine AW.block ?_ | refine blockQ_n ?_ | refine blockQ_r ?_ | refine blockQ_e ?_ | refine blockQ_o rfl ?_)
  refine OutOK.callX [] (by simp [*]; rfl) (by simp [*]; rfl) (by simp [*]; rfl) hb67 (by apply x_spec_l1Cur_pick <;> first | assumption | exact Hd.out (by assumption) | ((try (clear e0)); (try (clear e1)); (try (clear e2)); (try (clear e3)); (try (clear e4)); (try (clear e5)); (try (clear e6)); (try (clear e7)); (try (clear e8)); (try (clear e9)); (try (clear e10)); (try (clear e11)); omega)) ⟨by simp [*], by simp [*], by simp [*]⟩ (by simp [*]) (fun x hx => ?_)
  have hk : x.2.2.toNat < xs.length := by omega
  refine CallX.mk' ⟨by simp [*], by simp [*], by simp [*], by simp [*], by simp [*]⟩ (by simp [*]; rfl) ?_
  repeat' (first | with_reducible refine OutOK.done ?_ | refine thenQ_n ?_ | refine thenQ_r ?_ | refine thenQ_e ?_ | refine AW.seq ?_ | refine AW.reg tok (by simp [*]; rfl) ?_ | refine AW.ifB (by simp [*]; rfl) ?_ | refine IfG.t ?_ | refine IfG.f ?_ | (refine IfG.p (fun hg => ?_) (fun hg => ?_) <;> (try (have hg' := hg; simp at hg'))) | (refine IfG.n (fun hg => ?_) (fun hg => ?_) <;> (try (have hg' := hg; simp at hg'))) | (refine OutOK.gateP (fun hg => ?_) (fun hg => ?_) <;> (try (have hg' := hg; simp at hg'))) | (refine OutOK.gateN (fun hg => ?_) (fun hg => ?_) <;> (try (have hg' := hg; simp at hg'))) | (refine IfG.g (fun hg => ?_) (fun hg => ?_) <;> (try (have hg' := hg; simp at hg'))) | (refine OutOK.gate (fun hg => ?_) (fun hg => ?_) <;> (try (have hg' := hg; simp at hg'))) | refine OutOK.run (by simp [*]; rfl) ?_ | refine AW.ret ?_ | refine AW.skip ?_ | refine AW.exit ?_ | refine fin_r ?_ | refine fin_n ?_ | refine AW.block ?_ | refine blockQ_n ?_ | refine blockQ_r ?_ | refine blockQ_e ?_ | refine blockQ_o rfl ?_)
  exact ⟨(x.1, x.2.1, xs[x.2.2.toNat]), ⟨hx.1, hx.2.1, hq.out _ (List.getElem_mem hk)⟩, by simp [Try.f105]⟩
def strs (xs : List ByteArray) : List PV := xs.map fun x => .sc (.string x)
@[simp] theorem strs_len (xs) : (strs xs).length = xs.length := by simp [strs]
@[simp] theorem strs_get (xs : List ByteArray) (i : Nat) : (strs xs)[i]? = (xs[i]?).map fun x => .sc (.string x) := by simp [strs]
@[simp] theorem strs_at (xs : List ByteArray) (i : Nat) (h : i < (strs xs).length) : (strs xs)[i] = .sc (.string (xs[i]'(by simpa using h))) := by simp [strs]
@[simp] theorem strs_frz (xs) : PV.frzs (strs xs) = strs xs := by simp [strs]
theorem x_spec_l1Cur_of (code : List Int) (a s : Int) (xs : List ByteArray) (q : ByteArray → Prop) (h0 : 0 ≤ a) (h1 : a ≤ 900000000000) (hc : code.length ≤ 9223372036854775807) (hb : BytesOK code) (hn : 1 < xs.length) (hn' : xs.length ≤ 1000000) (hq : ∀ y ∈ xs, q y) :
    ACallX Try.prog 106 [.p (curP code a s), .v (.sl false 1 (strs xs))] (fun x : Int × Int × ByteArray => a ≤ x.1 ∧ x.1 ≤ a + 2 ∧ q x.2.2) (fun x => [.p (curP code x.1 x.2.1), .x]) (fun x => [.v (.sc (.string x.2.2))]) := by
  replace hq : Hd _ := hq
  have hn2 : (1 : Int) < xs.length := by omega
  refine ACallX.of (N := 12) tok Try.func106 rfl rfl rfl (by simp) ?_
  repeat' (first | with_reducible refine OutOK.done ?_ | refine thenQ_n ?_ | refine thenQ_r ?_ | refine thenQ_e ?_ | refine AW.seq ?_ | refine AW.reg tok (by simp [*]; rfl) ?_ | refine AW.ifB (by simp [*]; rfl) ?_ | refine IfG.t ?_ | refine IfG.f ?_ | (refine IfG.p (fun hg => ?_) (fun hg => ?_) <;> (try (have hg' := hg; simp at hg'))) | (refine IfG.n (fun hg => ?_) (fun hg => ?_) <;> (try (have hg' := hg; simp at hg'))) | (refine OutOK.gateP (fun hg => ?_) (fun hg => ?_) <;> (try (have hg' := hg; simp at hg'))) | (refine OutOK.gateN (fun hg => ?_) (fun hg => ?_) <;> (try (have hg' := hg; simp at hg'))) | (refine IfG.g (fun hg => ?_) (fun hg => ?_) <;> (try (have hg' := hg; simp at hg'))) | (refine OutOK.gate (fun hg => ?_) (fun hg => ?_) <;> (try (have hg' := hg; simp at hg'))) | refine OutOK.run (by simp [*]; rfl) ?_ | refine AW.ret ?_ | refine AW.skip ?_ | refine AW.exit ?_ | refine fin_r ?_ | refine fin_n ?_ | refine AW.block ?_ | refine blockQ_n ?_ | refine blockQ_r ?_ | refine blockQ_e ?_ | refine blockQ_o rfl ?_)
  refine OutOK.callX [] (by simp [*]; rfl) (by simp [*]; rfl) (by simp [*]; rfl) hb67 (by apply x_spec_l1Cur_pick <;> first | assumption | exact Hd.out (by assumption) | ((try (clear e0)); (try (clear e1)); (try (clear e2)); (try (clear e3)); (try (clear e4)); (try (clear e5)); (try (clear e6)); (try (clear e7)); (try (clear e8)); (try (clear e9)); (try (clear e10)); (try (clear e11)); omega)) ⟨by simp [*], by simp [*], by simp [*]⟩ (by simp [*]) (fun x hx => ?_)
  have hk : x.2.2.toNat < xs.length := by omega
  refine CallX.mk' ⟨by simp [*], by simp [*], by simp [*], by simp [*], by simp [*]⟩ (by simp [*]; rfl) ?_
  repeat' (first | with_reducible refine OutOK.done ?_ | refine thenQ_n ?_ | refine thenQ_r ?_ | refine thenQ_e ?_ | refine AW.seq ?_ | refine AW.reg tok (by simp [*]; rfl) ?_ | refine AW.ifB (by simp [*]; rfl) ?_ | refine IfG.t ?_ | refine IfG.f ?_ | (refine IfG.p (fun hg => ?_) (fun hg => ?_) <;> (try (have hg' := hg; simp at hg'))) | (refine IfG.n (fun hg => ?_) (fun hg => ?_) <;> (try (have hg' := hg; simp at hg'))) | (refine OutOK.gateP (fun hg => ?_) (fun hg => ?_) <;> (try (have hg' := hg; simp at hg'))) | (refine OutOK.gateN (fun hg => ?_) (fun hg => ?_) <;> (try (have hg' := hg; simp at hg'))) | (refine IfG.g (fun hg => ?_) (fun hg => ?_) <;> (try (have hg' := hg; simp at hg'))) | (refine OutOK.gate (fun hg => ?_) (fun hg => ?_) <;> (try (have hg' := hg; simp at hg'))) | refine OutOK.run (by simp [*]; rfl) ?_ | refine AW.ret ?_ | refine AW.skip ?_ | refine AW.exit ?_ | refine fin_r ?_ | refine fin_n ?_ | refine AW.block ?_ | refine blockQ_n ?_ | refine blockQ_r ?_ | refine blockQ_e ?_ | refine blockQ_o rfl ?_)
  exact ⟨(x.1, x.2.1, xs[x.2.2.toNat]), ⟨hx.1, hx.2.1, hq.out _ (List.getElem_mem hk)⟩, by simp [Try.f106]⟩
theorem c_laws_vBig (code : List Int) : ACall Try.prog 15 [.v (.sl true 1 (bys code))] [.x] [boo (decide (65536 < (code.length : Int)))] := by
  refine ACall.of (N := 6) tok Try.func15 rfl rfl rfl (by simp) ?_
  repeat' (first | with_reducible refine OutOK.done ?_ | refine thenQ_n ?_ | refine thenQ_r ?_ | refine thenQ_e ?_ | refine AW.seq ?_ | refine AW.reg tok (by simp [*]; rfl) ?_ | refine AW.ifB (by simp [*]; rfl) ?_ | refine IfG.t ?_ | refine IfG.f ?_ | (refine IfG.p (fun hg => ?_) (fun hg => ?_) <;> (try (have hg' := hg; simp at hg'))) | (refine IfG.n (fun hg => ?_) (fun hg => ?_) <;> (try (have hg' := hg; simp at hg'))) | (refine OutOK.gateP (fun hg => ?_) (fun hg => ?_) <;> (try (have hg' := hg; simp at hg'))) | (refine OutOK.gateN (fun hg => ?_) (fun hg => ?_) <;> (try (have hg' := hg; simp at hg'))) | (refine IfG.g (fun hg => ?_) (fun hg => ?_) <;> (try (have hg' := hg; simp at hg'))) | (refine OutOK.gate (fun hg => ?_) (fun hg => ?_) <;> (try (have hg' := hg; simp at hg'))) | refine OutOK.run (by simp [*]; rfl) ?_ | refine AW.ret ?_ | refine AW.skip ?_ | refine AW.exit ?_ | refine fin_r ?_ | refine fin_n ?_ | refine AW.block ?_ | refine blockQ_n ?_ | refine blockQ_r ?_ | refine blockQ_e ?_ | refine blockQ_o rfl ?_)
  all_goals (try simp [*, Try.f15])
end Go.Proofs.Ytodombkmnnggeaa.EngS

