-- Written by this session's texts and program for this claim. Lean checks it.
import Derived.Test.YtbofobjofngoeaaVFnExactConflictingItems3
set_option autoImplicit true
set_option relaxedAutoImplicit true
set_option linter.unusedSimpArgs false
set_option linter.unusedVariables false
set_option maxHeartbeats 4000000
set_option maxRecDepth 100000
namespace Go.Proofs.Ytbofobjofngoeaa.EngS
open Go Go.Proofs Go.Eng Go.RowKit
attribute [local irreducible] Go.RowKit.wrap64
def EdtB (e : Edt) : Prop := e.ck.length ≤ 1048576 ∧ e.it.size ≤ 1048576 ∧ e.tx.size ≤ 1048576
def EdtV (e : Edt) : Prop := e.it.size ≤ 9223372036854775807 ∧ e.tx.size ≤ 9223372036854775807 ∧ e.ck.length ≤ 9223372036854775807
theorem EdtB.w {e : Edt} (h : EdtB e) : EdtW e := ⟨by have := h.2.1; omega, by have := h.2.2; omega, by have := h.1; omega⟩
def ckS : List Edt → Nat
  | [] => 0
  | e :: r => e.ck.length + ckS r
theorem ckS_app (a b : List Edt) : ckS (a ++ b) = ckS a + ckS b := by
  induction a with
  | nil => simp [ckS]
  | cons x r ih => simp only [List.cons_append, ckS, ih]; omega
theorem ckS_step (l : List Edt) (i : Nat) (h : i < l.length) : ckS (l.take (i + 1)) = ckS (l.take i) + l[i].ck.length := by
  rw [List.take_succ_eq_append_getElem h, ckS_app]; simp [ckS]
theorem x_laws_szEdit (e : Edt) (l : Int) (hW : EdtV e) (h0 : 0 ≤ l) (h1 : l ≤ 1048576) : ACallX Try.prog 73 [edtD e, int l] (fun r : Int => r ≤ l ∧ -1 ≤ r ∧ (0 ≤ r → EdtB e ∧ r + e.ck.length ≤ l)) (fun _ => [.x, .x]) (fun r => [int r]) := by
  obtain ⟨hi, ht, hc⟩ := hW
  have cz := c_laws_szIntS e.ck l (by omega) (by omega)
  have b1 := lef_low l e.ck.length
  have b2 := lef_le l e.ck.length (by omega)
  have b3 : 0 ≤ lef l e.ck.length → (e.ck.length : Int) ≤ l ∧ lef l e.ck.length = l - e.ck.length := fun h => ⟨lef_ok h, by have := lef_ok h; unfold lef; rw [if_neg (by omega)]⟩
  generalize lef l e.ck.length = q1 at *
  rcases Int.lt_or_le q1 0 with n1 | n1
  · clear b3
    refine ACallX.of (N := 26) tok Try.func73 rfl rfl rfl (by simp) ?_
    repeat' (first | with_reducible refine OutOK.done ?_ | refine thenQ_n ?_ | refine thenQ_r ?_ | refine thenQ_e ?_ | refine AW.seq ?_ | refine AW.reg tok (by simp [*]; rfl) ?_ | refine AW.ifB (by simp [*]; rfl) ?_ | refine IfG.t ?_ | refine IfG.f ?_ | (refine IfG.p (fun hg => ?_) (fun hg => ?_) <;> (try (have hg' := hg; simp at hg'))) | (refine IfG.n (fun hg => ?_) (fun hg => ?_) <;> (try (have hg' := hg; simp at hg'))) | (refine OutOK.gateP (fun hg => ?_) (fun hg => ?_) <;> (try (have hg' := hg; simp at hg'))) | (refine OutOK.gateN (fun hg => ?_) (fun hg => ?_) <;> (try (have hg' := hg; simp at hg'))) | (refine IfG.g (fun hg => ?_) (fun hg => ?_) <;> (try (have hg' := hg; simp at hg'))) | (refine OutOK.gate (fun hg => ?_) (fun hg => ?_) <;> (try (have hg' := hg; simp at hg'))) | (refine OutOK.callF [] (by simp [*]; rfl) (by simp [*]; rfl) (by simp [*]; rfl) hb116 (by apply cz <;> first | assumption | exact Hd.out (by assumption) | ((try (clear e0)); (try (clear e1)); (try (clear e2)); (try (clear e3)); (try (clear e4)); (try (clear e5)); (try (clear e6)); (try (clear e7)); (try (clear e8)); (try (clear e9)); (try (clear e10)); (try (clear e11)); omega)) ⟨by simp [*], by simp [*], by simp [*], by simp [*], by simp [*]⟩ (by simp [*]) (by simp [*]; rfl) ?_) | refine OutOK.run (by simp [*]; rfl) ?_ | refine AW.ret ?_ | refine AW.skip ?_ | refine AW.exit ?_ | refine fin_r ?_ | refine fin_n ?_ | refine AW.block ?_ | refine blockQ_n ?_ | refine blockQ_r ?_ | refine blockQ_e ?_ | refine blockQ_o rfl ?_)
    exact ⟨-1, ⟨by omega, by omega, by omega⟩, by simp [Try.f73]⟩
  have n1' : ¬ q1 < 0 := by omega
  obtain ⟨h3, h40⟩ := b3 n1
  have h4 : Hd (q1 = l - e.ck.length) := h40
  clear b3 h40
  obtain ⟨q2, hq2⟩ : ∃ q2, q1 - (e.it.size : Int) = q2 := ⟨_, rfl⟩
  have e1 : wrap64 (q1 - e.it.size) = q2 := by rw [w64 (by omega) (by omega)]; exact hq2
  rcases Int.lt_or_le q2 0 with n2 | n2
  · clear hq2
    refine ACallX.of (N := 26) tok Try.func73 rfl rfl rfl (by simp) ?_
    repeat' (first | with_reducible refine OutOK.done ?_ | refine thenQ_n ?_ | refine thenQ_r ?_ | refine thenQ_e ?_ | refine AW.seq ?_ | refine AW.reg tok (by simp [*]; rfl) ?_ | refine AW.ifB (by simp [*]; rfl) ?_ | refine IfG.t ?_ | refine IfG.f ?_ | (refine IfG.p (fun hg => ?_) (fun hg => ?_) <;> (try (have hg' := hg; simp at hg'))) | (refine IfG.n (fun hg => ?_) (fun hg => ?_) <;> (try (have hg' := hg; simp at hg'))) | (refine OutOK.gateP (fun hg => ?_) (fun hg => ?_) <;> (try (have hg' := hg; simp at hg'))) | (refine OutOK.gateN (fun hg => ?_) (fun hg => ?_) <;> (try (have hg' := hg; simp at hg'))) | (refine IfG.g (fun hg => ?_) (fun hg => ?_) <;> (try (have hg' := hg; simp at hg'))) | (refine OutOK.gate (fun hg => ?_) (fun hg => ?_) <;> (try (have hg' := hg; simp at hg'))) | (refine OutOK.callF [] (by simp [*]; rfl) (by simp [*]; rfl) (by simp [*]; rfl) hb116 (by apply cz <;> first | assumption | exact Hd.out (by assumption) | ((try (clear e0)); (try (clear e1)); (try (clear e2)); (try (clear e3)); (try (clear e4)); (try (clear e5)); (try (clear e6)); (try (clear e7)); (try (clear e8)); (try (clear e9)); (try (clear e10)); (try (clear e11)); omega)) ⟨by simp [*], by simp [*], by simp [*], by simp [*], by simp [*]⟩ (by simp [*]) (by simp [*]; rfl) ?_) | refine OutOK.run (by simp [*]; rfl) ?_ | refine AW.ret ?_ | refine AW.skip ?_ | refine AW.exit ?_ | refine fin_r ?_ | refine fin_n ?_ | refine AW.block ?_ | refine blockQ_n ?_ | refine blockQ_r ?_ | refine blockQ_e ?_ | refine blockQ_o rfl ?_)
    exact ⟨-1, ⟨by ((try (clear e0)); (try (clear e1)); (try (clear e2)); (try (clear e3)); (try (clear e4)); (try (clear e5)); (try (clear e6)); (try (clear e7)); (try (clear e8)); (try (clear e9)); (try (clear e10)); (try (clear e11)); omega), by ((try (clear e0)); (try (clear e1)); (try (clear e2)); (try (clear e3)); (try (clear e4)); (try (clear e5)); (try (clear e6)); (try (clear e7)); (try (clear e8)); (try (clear e9)); (try (clear e10)); (try (clear e11)); omega), by ((try (clear e0)); (try (clear e1)); (try (clear e2)); (try (clear e3)); (try (clear e4)); (try (clear e5)); (try (clear e6)); (try (clear e7)); (try (clear e8)); (try (clear e9)); (try (clear e10)); (try (clear e11)); omega)⟩, by simp [Try.f73]⟩
  have n2' : ¬ q2 < 0 := by ((try (clear e0)); (try (clear e1)); (try (clear e2)); (try (clear e3)); (try (clear e4)); (try (clear e5)); (try (clear e6)); (try (clear e7)); (try (clear e8)); (try (clear e9)); (try (clear e10)); (try (clear e11)); omega)
  have e2 : wrap64 (q2 - e.tx.size) = q2 - e.tx.size := w64 (by ((try (clear e0)); (try (clear e1)); (try (clear e2)); (try (clear e3)); (try (clear e4)); (try (clear e5)); (try (clear e6)); (try (clear e7)); (try (clear e8)); (try (clear e9)); (try (clear e10)); (try (clear e11)); omega)) (by ((try (clear e0)); (try (clear e1)); (try (clear e2)); (try (clear e3)); (try (clear e4)); (try (clear e5)); (try (clear e6)); (try (clear e7)); (try (clear e8)); (try (clear e9)); (try (clear e10)); (try (clear e11)); omega))
  have h2 : Hd (q1 - (e.it.size : Int) = q2) := hq2
  clear hq2
  rcases Int.lt_or_le (q2 - e.tx.size) 0 with n3 | n3
  · refine ACallX.of (N := 26) tok Try.func73 rfl rfl rfl (by simp) ?_
    repeat' (first | with_reducible refine OutOK.done ?_ | refine thenQ_n ?_ | refine thenQ_r ?_ | refine thenQ_e ?_ | refine AW.seq ?_ | refine AW.reg tok (by simp [*]; rfl) ?_ | refine AW.ifB (by simp [*]; rfl) ?_ | refine IfG.t ?_ | refine IfG.f ?_ | (refine IfG.p (fun hg => ?_) (fun hg => ?_) <;> (try (have hg' := hg; simp at hg'))) | (refine IfG.n (fun hg => ?_) (fun hg => ?_) <;> (try (have hg' := hg; simp at hg'))) | (refine OutOK.gateP (fun hg => ?_) (fun hg => ?_) <;> (try (have hg' := hg; simp at hg'))) | (refine OutOK.gateN (fun hg => ?_) (fun hg => ?_) <;> (try (have hg' := hg; simp at hg'))) | (refine IfG.g (fun hg => ?_) (fun hg => ?_) <;> (try (have hg' := hg; simp at hg'))) | (refine OutOK.gate (fun hg => ?_) (fun hg => ?_) <;> (try (have hg' := hg; simp at hg'))) | (refine OutOK.callF [] (by simp [*]; rfl) (by simp [*]; rfl) (by simp [*]; rfl) hb116 (by apply cz <;> first | assumption | exact Hd.out (by assumption) | ((try (clear e0)); (try (clear e1)); (try (clear e2)); (try (clear e3)); (try (clear e4)); (try (clear e5)); (try (clear e6)); (try (clear e7)); (try (clear e8)); (try (clear e9)); (try (clear e10)); (try (clear e11)); omega)) ⟨by simp [*], by simp [*], by simp [*], by simp [*], by simp [*]⟩ (by simp [*]) (by simp [*]; rfl) ?_) | refine OutOK.run (by simp [*]; rfl) ?_ | refine AW.ret ?_ | refine AW.skip ?_ | refine AW.exit ?_ | refine fin_r ?_ | refine fin_n ?_ | refine AW.block ?_ | refine blockQ_n ?_ | refine blockQ_r ?_ | refine blockQ_e ?_ | refine blockQ_o rfl ?_)
    exact ⟨-1, ⟨by ((try (clear e0)); (try (clear e1)); (try (clear e2)); (try (clear e3)); (try (clear e4)); (try (clear e5)); (try (clear e6)); (try (clear e7)); (try (clear e8)); (try (clear e9)); (try (clear e10)); (try (clear e11)); omega), by ((try (clear e0)); (try (clear e1)); (try (clear e2)); (try (clear e3)); (try (clear e4)); (try (clear e5)); (try (clear e6)); (try (clear e7)); (try (clear e8)); (try (clear e9)); (try (clear e10)); (try (clear e11)); omega), by ((try (clear e0)); (try (clear e1)); (try (clear e2)); (try (clear e3)); (try (clear e4)); (try (clear e5)); (try (clear e6)); (try (clear e7)); (try (clear e8)); (try (clear e9)); (try (clear e10)); (try (clear e11)); omega)⟩, by simp [Try.f73]⟩
  · have n3' : ¬ q2 - (e.tx.size : Int) < 0 := by ((try (clear e0)); (try (clear e1)); (try (clear e2)); (try (clear e3)); (try (clear e4)); (try (clear e5)); (try (clear e6)); (try (clear e7)); (try (clear e8)); (try (clear e9)); (try (clear e10)); (try (clear e11)); omega)
    have hb : Hd (EdtB e) := by have := h2.out; exact ⟨by ((try (clear e0)); (try (clear e1)); (try (clear e2)); (try (clear e3)); (try (clear e4)); (try (clear e5)); (try (clear e6)); (try (clear e7)); (try (clear e8)); (try (clear e9)); (try (clear e10)); (try (clear e11)); omega), by ((try (clear e0)); (try (clear e1)); (try (clear e2)); (try (clear e3)); (try (clear e4)); (try (clear e5)); (try (clear e6)); (try (clear e7)); (try (clear e8)); (try (clear e9)); (try (clear e10)); (try (clear e11)); omega), by ((try (clear e0)); (try (clear e1)); (try (clear e2)); (try (clear e3)); (try (clear e4)); (try (clear e5)); (try (clear e6)); (try (clear e7)); (try (clear e8)); (try (clear e9)); (try (clear e10)); (try (clear e11)); omega)⟩
    refine ACallX.of (N := 26) tok Try.func73 rfl rfl rfl (by simp) ?_
    repeat' (first | with_reducible refine OutOK.done ?_ | refine thenQ_n ?_ | refine thenQ_r ?_ | refine thenQ_e ?_ | refine AW.seq ?_ | refine AW.reg tok (by simp [*]; rfl) ?_ | refine AW.ifB (by simp [*]; rfl) ?_ | refine IfG.t ?_ | refine IfG.f ?_ | (refine IfG.p (fun hg => ?_) (fun hg => ?_) <;> (try (have hg' := hg; simp at hg'))) | (refine IfG.n (fun hg => ?_) (fun hg => ?_) <;> (try (have hg' := hg; simp at hg'))) | (refine OutOK.gateP (fun hg => ?_) (fun hg => ?_) <;> (try (have hg' := hg; simp at hg'))) | (refine OutOK.gateN (fun hg => ?_) (fun hg => ?_) <;> (try (have hg' := hg; simp at hg'))) | (refine IfG.g (fun hg => ?_) (fun hg => ?_) <;> (try (have hg' := hg; simp at hg'))) | (refine OutOK.gate (fun hg => ?_) (fun hg => ?_) <;> (try (have hg' := hg; simp at hg'))) | (refine OutOK.callF [] (by simp [*]; rfl) (by simp [*]; rfl) (by simp [*]; rfl) hb116 (by apply cz <;> first | assumption | exact Hd.out (by assumption) | ((try (clear e0)); (try (clear e1)); (try (clear e2)); (try (clear e3)); (try (clear e4)); (try (clear e5)); (try (clear e6)); (try (clear e7)); (try (clear e8)); (try (clear e9)); (try (clear e10)); (try (clear e11)); omega)) ⟨by simp [*], by simp [*], by simp [*], by simp [*], by simp [*]⟩ (by simp [*]) (by simp [*]; rfl) ?_) | refine OutOK.run (by simp [*]; rfl) ?_ | refine AW.ret ?_ | refine AW.skip ?_ | refine AW.exit ?_ | refine fin_r ?_ | refine fin_n ?_ | refine AW.block ?_ | refine blockQ_n ?_ | refine blockQ_r ?_ | refine blockQ_e ?_ | refine blockQ_o rfl ?_)
    exact ⟨q2 - e.tx.size, ⟨by have := h2.out; ((try (clear e0)); (try (clear e1)); (try (clear e2)); (try (clear e3)); (try (clear e4)); (try (clear e5)); (try (clear e6)); (try (clear e7)); (try (clear e8)); (try (clear e9)); (try (clear e10)); (try (clear e11)); omega), by ((try (clear e0)); (try (clear e1)); (try (clear e2)); (try (clear e3)); (try (clear e4)); (try (clear e5)); (try (clear e6)); (try (clear e7)); (try (clear e8)); (try (clear e9)); (try (clear e10)); (try (clear e11)); omega), fun _ => ⟨hb.out, by have := h2.out; have := h4.out; ((try (clear e0)); (try (clear e1)); (try (clear e2)); (try (clear e3)); (try (clear e4)); (try (clear e5)); (try (clear e6)); (try (clear e7)); (try (clear e8)); (try (clear e9)); (try (clear e10)); (try (clear e11)); omega)⟩⟩, by simp [Try.f73]⟩
theorem x_laws_szEditS (xs : List Edt) (l : Int) (h : xs.length ≤ 9223372036854775807) (hW : ∀ e ∈ xs, EdtV e) (h0 : 0 ≤ l) (h1 : l ≤ 1048576) : ACallX Try.prog 23 [.v (.sl true 5 (edts true xs)), int l] (fun r : Int => -1 ≤ r ∧ (0 ≤ r → xs.length ≤ 1048576 ∧ (∀ e ∈ xs, EdtB e) ∧ ckS xs ≤ 1048576)) (fun _ => [.x, .x]) (fun r => [int r]) := by
  have e1 : wrap64 (l - xs.length) = l - xs.length := w64 (by omega) (by omega)
  rcases Int.lt_or_le (l - xs.length) 0 with hn | hn
  · clear hW
    refine ACallX.of (N := 27) tok Try.func23 rfl rfl rfl (by simp) ?_
    repeat' (first | with_reducible refine OutOK.done ?_ | refine thenQ_n ?_ | refine thenQ_r ?_ | refine thenQ_e ?_ | refine AW.seq ?_ | refine AW.reg tok (by simp [*]; rfl) ?_ | refine AW.ifB (by simp [*]; rfl) ?_ | refine IfG.t ?_ | refine IfG.f ?_ | (refine IfG.p (fun hg => ?_) (fun hg => ?_) <;> (try (have hg' := hg; simp at hg'))) | (refine IfG.n (fun hg => ?_) (fun hg => ?_) <;> (try (have hg' := hg; simp at hg'))) | (refine OutOK.gateP (fun hg => ?_) (fun hg => ?_) <;> (try (have hg' := hg; simp at hg'))) | (refine OutOK.gateN (fun hg => ?_) (fun hg => ?_) <;> (try (have hg' := hg; simp at hg'))) | (refine IfG.g (fun hg => ?_) (fun hg => ?_) <;> (try (have hg' := hg; simp at hg'))) | (refine OutOK.gate (fun hg => ?_) (fun hg => ?_) <;> (try (have hg' := hg; simp at hg'))) | refine OutOK.run (by simp [*]; rfl) ?_ | refine AW.ret ?_ | refine AW.skip ?_ | refine AW.exit ?_ | refine fin_r ?_ | refine fin_n ?_ | refine AW.block ?_ | refine blockQ_n ?_ | refine blockQ_r ?_ | refine blockQ_e ?_ | refine blockQ_o rfl ?_)
    exact ⟨-1, ⟨by omega, by omega⟩, by simp [Try.f23]⟩
  have hn' : ¬ l - (xs.length : Int) < 0 := by ((try (clear e0)); (try (clear e1)); (try (clear e2)); (try (clear e3)); (try (clear e4)); (try (clear e5)); (try (clear e6)); (try (clear e7)); (try (clear e8)); (try (clear e9)); (try (clear e10)); (try (clear e11)); omega)
  have hxl : xs.length ≤ 1048576 := by ((try (clear e0)); (try (clear e1)); (try (clear e2)); (try (clear e3)); (try (clear e4)); (try (clear e5)); (try (clear e6)); (try (clear e7)); (try (clear e8)); (try (clear e9)); (try (clear e10)); (try (clear e11)); omega)
  have hW' : Hd _ := hW
  clear hW
  refine ACallX.of (N := 27) tok Try.func23 rfl rfl rfl (by simp) ?_
  repeat' (first | with_reducible refine OutOK.done ?_ | refine thenQ_n ?_ | refine thenQ_r ?_ | refine thenQ_e ?_ | refine AW.seq ?_ | refine AW.reg tok (by simp [*]; rfl) ?_ | refine AW.ifB (by simp [*]; rfl) ?_ | refine IfG.t ?_ | refine IfG.f ?_ | (refine IfG.p (fun hg => ?_) (fun hg => ?_) <;> (try (have hg' := hg; simp at hg'))) | (refine IfG.n (fun hg => ?_) (fun hg => ?_) <;> (try (have hg' := hg; simp at hg'))) | (refine OutOK.gateP (fun hg => ?_) (fun hg => ?_) <;> (try (have hg' := hg; simp at hg'))) | (refine OutOK.gateN (fun hg => ?_) (fun hg => ?_) <;> (try (have hg' := hg; simp at hg'))) | (refine IfG.g (fun hg => ?_) (fun hg => ?_) <;> (try (have hg' := hg; simp at hg'))) | (refine OutOK.gate (fun hg => ?_) (fun hg => ?_) <;> (try (have hg' := hg; simp at hg'))) | refine OutOK.run (by simp [*]; rfl) ?_ | refine AW.ret ?_ | refine AW.skip ?_ | refine AW.exit ?_ | refine fin_r ?_ | refine fin_n ?_ | refine AW.block ?_ | refine blockQ_n ?_ | refine blockQ_r ?_ | refine blockQ_e ?_ | refine blockQ_o rfl ?_)
  refine AW.loopL (α := Nat × Int) (fun p => p.1 ≤ xs.length ∧ (0 ≤ p.2 ∧ p.2 ≤ 1048576) ∧ Hd ((∀ j (hj : j < xs.length), j < p.1 → EdtB xs[j]) ∧ (ckS (xs.take p.1) : Int) + p.2 ≤ 1048576)) (fun p => [(0, .c (.sl true 5 (edts true xs))), (1, .c (.sc (.int .i64 p.2))), (5, .c (.sc (.int .i64 (p.1 : Int))))]) (fun _ => []) (fun p => xs.length - p.1) (0, l - xs.length) ⟨Nat.zero_le _, ⟨by ((try (clear e0)); (try (clear e1)); (try (clear e2)); (try (clear e3)); (try (clear e4)); (try (clear e5)); (try (clear e6)); (try (clear e7)); (try (clear e8)); (try (clear e9)); (try (clear e10)); (try (clear e11)); omega), by simp only; ((try (clear e0)); (try (clear e1)); (try (clear e2)); (try (clear e3)); (try (clear e4)); (try (clear e5)); (try (clear e6)); (try (clear e7)); (try (clear e8)); (try (clear e9)); (try (clear e10)); (try (clear e11)); omega)⟩, fun j _ hj => by omega, by simp only [List.take_zero, ckS]; ((try (clear e0)); (try (clear e1)); (try (clear e2)); (try (clear e3)); (try (clear e4)); (try (clear e5)); (try (clear e6)); (try (clear e7)); (try (clear e8)); (try (clear e9)); (try (clear e10)); (try (clear e11)); omega)⟩ ⟨by simp, by simp, by simp⟩ ?_
  rintro ⟨i, k⟩ ⟨hi, ⟨hk0, hk1⟩, hs⟩
  simp only at hi hk0 hk1 hs
  clear e1 hn hn'
  rcases Nat.lt_or_ge i xs.length with hl | hl
  · have e2 : wrap64 ((i : Int) + 1) = ((i + 1 : Nat) : Int) := by rw [w64 (by omega) (by omega)]; omega
    have cz := x_laws_szEdit xs[i] k (hW'.out _ (List.getElem_mem hl)) hk0 hk1
    repeat' (first | with_reducible refine OutOK.done ?_ | refine thenQ_n ?_ | refine thenQ_r ?_ | refine thenQ_e ?_ | refine AW.seq ?_ | refine AW.reg tok (by simp [*]; rfl) ?_ | refine AW.ifB (by simp [*]; rfl) ?_ | refine IfG.t ?_ | refine IfG.f ?_ | (refine IfG.p (fun hg => ?_) (fun hg => ?_) <;> (try (have hg' := hg; simp at hg'))) | (refine IfG.n (fun hg => ?_) (fun hg => ?_) <;> (try (have hg' := hg; simp at hg'))) | (refine OutOK.gateP (fun hg => ?_) (fun hg => ?_) <;> (try (have hg' := hg; simp at hg'))) | (refine OutOK.gateN (fun hg => ?_) (fun hg => ?_) <;> (try (have hg' := hg; simp at hg'))) | (refine IfG.g (fun hg => ?_) (fun hg => ?_) <;> (try (have hg' := hg; simp at hg'))) | (refine OutOK.gate (fun hg => ?_) (fun hg => ?_) <;> (try (have hg' := hg; simp at hg'))) | refine OutOK.run (by simp [*]; rfl) ?_ | refine AW.ret ?_ | refine AW.skip ?_ | refine AW.exit ?_ | refine fin_r ?_ | refine fin_n ?_ | refine AW.block ?_ | refine blockQ_n ?_ | refine blockQ_r ?_ | refine blockQ_e ?_ | refine blockQ_o rfl ?_)
    refine OutOK.callX [] (by simp [*]; rfl) (by simp [*]; rfl) (by simp [*]; rfl) hb73 (by apply cz <;> first | assumption | exact Hd.out (by assumption) | ((try (clear e0)); (try (clear e1)); (try (clear e2)); (try (clear e3)); (try (clear e4)); (try (clear e5)); (try (clear e6)); (try (clear e7)); (try (clear e8)); (try (clear e9)); (try (clear e10)); (try (clear e11)); omega)) ⟨by simp [*], by simp [*], by simp [*]⟩ (by simp [*]) (fun x hx => ?_)
    obtain ⟨c1, c2, c3⟩ := hx
    rcases Int.lt_or_le x 0 with hc | hc
    · clear c3 c1
      refine CallX.mk' ⟨by simp [*], by simp [*], by simp [*], by simp [*], by simp [*]⟩ (by simp [*]; rfl) ?_
      repeat' (first | with_reducible refine OutOK.done ?_ | refine thenQ_n ?_ | refine thenQ_r ?_ | refine thenQ_e ?_ | refine AW.seq ?_ | refine AW.reg tok (by simp [*]; rfl) ?_ | refine AW.ifB (by simp [*]; rfl) ?_ | refine IfG.t ?_ | refine IfG.f ?_ | (refine IfG.p (fun hg => ?_) (fun hg => ?_) <;> (try (have hg' := hg; simp at hg'))) | (refine IfG.n (fun hg => ?_) (fun hg => ?_) <;> (try (have hg' := hg; simp at hg'))) | (refine OutOK.gateP (fun hg => ?_) (fun hg => ?_) <;> (try (have hg' := hg; simp at hg'))) | (refine OutOK.gateN (fun hg => ?_) (fun hg => ?_) <;> (try (have hg' := hg; simp at hg'))) | (refine IfG.g (fun hg => ?_) (fun hg => ?_) <;> (try (have hg' := hg; simp at hg'))) | (refine OutOK.gate (fun hg => ?_) (fun hg => ?_) <;> (try (have hg' := hg; simp at hg'))) | refine OutOK.run (by simp [*]; rfl) ?_ | refine AW.ret ?_ | refine AW.skip ?_ | refine AW.exit ?_ | refine fin_r ?_ | refine fin_n ?_ | refine AW.block ?_ | refine blockQ_n ?_ | refine blockQ_r ?_ | refine blockQ_e ?_ | refine blockQ_o rfl ?_)
      exact ⟨-1, ⟨by omega, by omega⟩, by simp [Try.f23]⟩
    · have hc' : ¬ x < 0 := by ((try (clear e0)); (try (clear e1)); (try (clear e2)); (try (clear e3)); (try (clear e4)); (try (clear e5)); (try (clear e6)); (try (clear e7)); (try (clear e8)); (try (clear e9)); (try (clear e10)); (try (clear e11)); omega)
      have hb : Hd (EdtB xs[i]) := (c3 hc).1
      have hk2 : Hd ((ckS (xs.take (i + 1)) : Int) + x ≤ 1048576) := by have h5 := hs.out.2; have h6 := (c3 hc).2; rw [Hd, ckS_step xs i hl]; push_cast; clear e2; omega
      clear c3
      refine CallX.mk' ⟨by simp [*], by simp [*], by simp [*], by simp [*], by simp [*]⟩ (by simp [*]; rfl) ?_
      repeat' (first | with_reducible refine OutOK.done ?_ | refine thenQ_n ?_ | refine thenQ_r ?_ | refine thenQ_e ?_ | refine AW.seq ?_ | refine AW.reg tok (by simp [*]; rfl) ?_ | refine AW.ifB (by simp [*]; rfl) ?_ | refine IfG.t ?_ | refine IfG.f ?_ | (refine IfG.p (fun hg => ?_) (fun hg => ?_) <;> (try (have hg' := hg; simp at hg'))) | (refine IfG.n (fun hg => ?_) (fun hg => ?_) <;> (try (have hg' := hg; simp at hg'))) | (refine OutOK.gateP (fun hg => ?_) (fun hg => ?_) <;> (try (have hg' := hg; simp at hg'))) | (refine OutOK.gateN (fun hg => ?_) (fun hg => ?_) <;> (try (have hg' := hg; simp at hg'))) | (refine IfG.g (fun hg => ?_) (fun hg => ?_) <;> (try (have hg' := hg; simp at hg'))) | (refine OutOK.gate (fun hg => ?_) (fun hg => ?_) <;> (try (have hg' := hg; simp at hg'))) | refine OutOK.run (by simp [*]; rfl) ?_ | refine AW.ret ?_ | refine AW.skip ?_ | refine AW.exit ?_ | refine fin_r ?_ | refine fin_n ?_ | refine AW.block ?_ | refine blockQ_n ?_ | refine blockQ_r ?_ | refine blockQ_e ?_ | refine blockQ_o rfl ?_)
      refine ⟨(i + 1, x), ⟨hl, ⟨hc, by simp only; ((try (clear e0)); (try (clear e1)); (try (clear e2)); (try (clear e3)); (try (clear e4)); (try (clear e5)); (try (clear e6)); (try (clear e7)); (try (clear e8)); (try (clear e9)); (try (clear e10)); (try (clear e11)); omega)⟩, fun j hj hj' => ?_, hk2.out⟩, ⟨by simp, by simp, by simp⟩, by simp only; ((try (clear e0)); (try (clear e1)); (try (clear e2)); (try (clear e3)); (try (clear e4)); (try (clear e5)); (try (clear e6)); (try (clear e7)); (try (clear e8)); (try (clear e9)); (try (clear e10)); (try (clear e11)); omega)⟩
      rcases Nat.lt_succ_iff_lt_or_eq.1 hj' with h1 | rfl
      · exact hs.out.1 j hj h1
      · exact hb.out
  · have hnl : ¬ i < xs.length := by ((try (clear e0)); (try (clear e1)); (try (clear e2)); (try (clear e3)); (try (clear e4)); (try (clear e5)); (try (clear e6)); (try (clear e7)); (try (clear e8)); (try (clear e9)); (try (clear e10)); (try (clear e11)); omega)
    repeat' (first | with_reducible refine OutOK.done ?_ | refine thenQ_n ?_ | refine thenQ_r ?_ | refine thenQ_e ?_ | refine AW.seq ?_ | refine AW.reg tok (by simp [*]; rfl) ?_ | refine AW.ifB (by simp [*]; rfl) ?_ | refine IfG.t ?_ | refine IfG.f ?_ | (refine IfG.p (fun hg => ?_) (fun hg => ?_) <;> (try (have hg' := hg; simp at hg'))) | (refine IfG.n (fun hg => ?_) (fun hg => ?_) <;> (try (have hg' := hg; simp at hg'))) | (refine OutOK.gateP (fun hg => ?_) (fun hg => ?_) <;> (try (have hg' := hg; simp at hg'))) | (refine OutOK.gateN (fun hg => ?_) (fun hg => ?_) <;> (try (have hg' := hg; simp at hg'))) | (refine IfG.g (fun hg => ?_) (fun hg => ?_) <;> (try (have hg' := hg; simp at hg'))) | (refine OutOK.gate (fun hg => ?_) (fun hg => ?_) <;> (try (have hg' := hg; simp at hg'))) | refine OutOK.run (by simp [*]; rfl) ?_ | refine AW.ret ?_ | refine AW.skip ?_ | refine AW.exit ?_ | refine fin_r ?_ | refine fin_n ?_ | refine AW.block ?_ | refine blockQ_n ?_ | refine blockQ_r ?_ | refine blockQ_e ?_ | refine blockQ_o rfl ?_)
    have hii : xs.take i = xs := List.take_of_length_le (by ((try (clear e0)); (try (clear e1)); (try (clear e2)); (try (clear e3)); (try (clear e4)); (try (clear e5)); (try (clear e6)); (try (clear e7)); (try (clear e8)); (try (clear e9)); (try (clear e10)); (try (clear e11)); omega))
    have hks := hs.out.2
    simp only [hii] at hks
    refine ⟨k, ⟨by ((try (clear e0)); (try (clear e1)); (try (clear e2)); (try (clear e3)); (try (clear e4)); (try (clear e5)); (try (clear e6)); (try (clear e7)); (try (clear e8)); (try (clear e9)); (try (clear e10)); (try (clear e11)); omega), fun _ => ⟨hxl, fun e he => ?_, by ((try (clear e0)); (try (clear e1)); (try (clear e2)); (try (clear e3)); (try (clear e4)); (try (clear e5)); (try (clear e6)); (try (clear e7)); (try (clear e8)); (try (clear e9)); (try (clear e10)); (try (clear e11)); omega)⟩⟩, by simp [Try.f23]⟩
    obtain ⟨j, hj, rfl⟩ := List.getElem_of_mem he
    exact hs.out.1 j hj (by ((try (clear e0)); (try (clear e1)); (try (clear e2)); (try (clear e3)); (try (clear e4)); (try (clear e5)); (try (clear e6)); (try (clear e7)); (try (clear e8)); (try (clear e9)); (try (clear e10)); (try (clear e11)); omega))
theorem c_laws_toEdit (e : Edt) (h : EdtB e) : ACall Try.prog 75 [edtD e] [.x] [edtO e] := by
  have ct := c_laws_toIntS e.ck h.1
  clear h
  refine ACall.of (N := 21) tok Try.func75 rfl rfl rfl (by simp) ?_
  repeat' (first | with_reducible refine OutOK.done ?_ | refine thenQ_n ?_ | refine thenQ_r ?_ | refine thenQ_e ?_ | refine AW.seq ?_ | refine AW.reg tok (by simp [*]; rfl) ?_ | refine AW.ifB (by simp [*]; rfl) ?_ | refine IfG.t ?_ | refine IfG.f ?_ | (refine IfG.p (fun hg => ?_) (fun hg => ?_) <;> (try (have hg' := hg; simp at hg'))) | (refine IfG.n (fun hg => ?_) (fun hg => ?_) <;> (try (have hg' := hg; simp at hg'))) | (refine OutOK.gateP (fun hg => ?_) (fun hg => ?_) <;> (try (have hg' := hg; simp at hg'))) | (refine OutOK.gateN (fun hg => ?_) (fun hg => ?_) <;> (try (have hg' := hg; simp at hg'))) | (refine IfG.g (fun hg => ?_) (fun hg => ?_) <;> (try (have hg' := hg; simp at hg'))) | (refine OutOK.gate (fun hg => ?_) (fun hg => ?_) <;> (try (have hg' := hg; simp at hg'))) | (refine OutOK.callF [] (by simp [*]; rfl) (by simp [*]; rfl) (by simp [*]; rfl) hb52 (by apply ct <;> first | assumption | exact Hd.out (by assumption) | ((try (clear e0)); (try (clear e1)); (try (clear e2)); (try (clear e3)); (try (clear e4)); (try (clear e5)); (try (clear e6)); (try (clear e7)); (try (clear e8)); (try (clear e9)); (try (clear e10)); (try (clear e11)); omega)) ⟨by simp [*], by simp [*], by simp [*], by simp [*], by simp [*]⟩ (by simp [*]) (by simp [*]; rfl) ?_) | refine OutOK.run (by simp [*]; rfl) ?_ | refine AW.ret ?_ | refine AW.skip ?_ | refine AW.exit ?_ | refine fin_r ?_ | refine fin_n ?_ | refine AW.block ?_ | refine blockQ_n ?_ | refine blockQ_r ?_ | refine blockQ_e ?_ | refine blockQ_o rfl ?_)
  all_goals (try simp [*, Try.f75])
def zE : Edt := ⟨0, 0, [], ⟨#[]⟩, ⟨#[]⟩⟩
@[simp] theorem rep_edts (n : Nat) : List.replicate n (PV.ag [.sc (.int .i64 0), .sc (.int .i64 0), .sl false 1 [], .sc (.string ⟨#[]⟩), .sc (.string ⟨#[]⟩)]) = els (edtC false) (List.replicate n zE) := by simp [els, zE]
theorem c_laws_toEditS (xs : List Edt) (h : xs.length ≤ 1048576) (hb : ∀ e ∈ xs, EdtB e) : ACall Try.prog 25 [.v (.sl true 5 (edts true xs))] [.x] [.v (.sl false 5 (edts false xs))] := by
  have h1 : (xs.length : Int) * 72 ≤ 140737488355328 := by omega
  have h2 : (xs.length : Int) ≤ 4611686018427387904 := by omega
  have hb' : Hd _ := hb
  clear hb
  refine ACall.of (N := 23) tok Try.func25 rfl rfl rfl (by simp) ?_
  repeat' (first | with_reducible refine OutOK.done ?_ | refine thenQ_n ?_ | refine thenQ_r ?_ | refine thenQ_e ?_ | refine AW.seq ?_ | refine AW.reg tok (by simp [*]; rfl) ?_ | refine AW.ifB (by simp [*]; rfl) ?_ | refine IfG.t ?_ | refine IfG.f ?_ | (refine IfG.p (fun hg => ?_) (fun hg => ?_) <;> (try (have hg' := hg; simp at hg'))) | (refine IfG.n (fun hg => ?_) (fun hg => ?_) <;> (try (have hg' := hg; simp at hg'))) | (refine OutOK.gateP (fun hg => ?_) (fun hg => ?_) <;> (try (have hg' := hg; simp at hg'))) | (refine OutOK.gateN (fun hg => ?_) (fun hg => ?_) <;> (try (have hg' := hg; simp at hg'))) | (refine IfG.g (fun hg => ?_) (fun hg => ?_) <;> (try (have hg' := hg; simp at hg'))) | (refine OutOK.gate (fun hg => ?_) (fun hg => ?_) <;> (try (have hg' := hg; simp at hg'))) | (refine OutOK.callF [] (by simp [*]; rfl) (by simp [*]; rfl) (by simp [*]; rfl) hb75 (by apply c_laws_toEdit <;> first | assumption | exact Hd.out (by assumption) | ((try (clear e0)); (try (clear e1)); (try (clear e2)); (try (clear e3)); (try (clear e4)); (try (clear e5)); (try (clear e6)); (try (clear e7)); (try (clear e8)); (try (clear e9)); (try (clear e10)); (try (clear e11)); omega)) ⟨by simp [*], by simp [*], by simp [*], by simp [*], by simp [*]⟩ (by simp [*]) (by simp [*]; rfl) ?_) | refine OutOK.run (by simp [*]; rfl) ?_ | refine AW.ret ?_ | refine AW.skip ?_ | refine AW.exit ?_ | refine fin_r ?_ | refine fin_n ?_ | refine AW.block ?_ | refine blockQ_n ?_ | refine blockQ_r ?_ | refine blockQ_e ?_ | refine blockQ_o rfl ?_)
  refine AW.loopL (fun i => i ≤ xs.length) (fun i => [(0, .c (.sl true 5 (edts true xs))), (3, .rf 7000 []), (4, .c (.sc (.int .i64 (i : Int))))]) (fun i => [(7000, .sv (.sl false 5 (edts false (copied zE xs i))))]) (fun i => xs.length - i) 0 (Nat.zero_le _) ⟨by simp, by simp [copied_zero], by simp⟩ ?_
  intro i hi
  rcases Nat.lt_or_ge i xs.length with hl | hl
  · have e1 : wrap64 ((i : Int) + 1) = (i : Int) + 1 := w64 (by omega) (by omega)
    have ct := c_laws_toEdit xs[i] (hb'.out _ (List.getElem_mem hl))
    have cst : Hd _ := copied_step zE xs i hl
    have cln : (copied zE xs i).length = xs.length := copied_len zE xs i hi
    generalize copied zE xs i = cp at *
    repeat' (first | with_reducible refine OutOK.done ?_ | refine thenQ_n ?_ | refine thenQ_r ?_ | refine thenQ_e ?_ | refine AW.seq ?_ | refine AW.reg tok (by simp [*]; rfl) ?_ | refine AW.ifB (by simp [*]; rfl) ?_ | refine IfG.t ?_ | refine IfG.f ?_ | (refine IfG.p (fun hg => ?_) (fun hg => ?_) <;> (try (have hg' := hg; simp at hg'))) | (refine IfG.n (fun hg => ?_) (fun hg => ?_) <;> (try (have hg' := hg; simp at hg'))) | (refine OutOK.gateP (fun hg => ?_) (fun hg => ?_) <;> (try (have hg' := hg; simp at hg'))) | (refine OutOK.gateN (fun hg => ?_) (fun hg => ?_) <;> (try (have hg' := hg; simp at hg'))) | (refine IfG.g (fun hg => ?_) (fun hg => ?_) <;> (try (have hg' := hg; simp at hg'))) | (refine OutOK.gate (fun hg => ?_) (fun hg => ?_) <;> (try (have hg' := hg; simp at hg'))) | (refine OutOK.callF [] (by simp [*]; rfl) (by simp [*]; rfl) (by simp [*]; rfl) hb75 (by apply ct <;> first | assumption | exact Hd.out (by assumption) | ((try (clear e0)); (try (clear e1)); (try (clear e2)); (try (clear e3)); (try (clear e4)); (try (clear e5)); (try (clear e6)); (try (clear e7)); (try (clear e8)); (try (clear e9)); (try (clear e10)); (try (clear e11)); omega)) ⟨by simp [*], by simp [*], by simp [*], by simp [*], by simp [*]⟩ (by simp [*]) (by simp [*]; rfl) ?_) | refine OutOK.run (by simp [*]; rfl) ?_ | refine AW.ret ?_ | refine AW.skip ?_ | refine AW.exit ?_ | refine fin_r ?_ | refine fin_n ?_ | refine AW.block ?_ | refine blockQ_n ?_ | refine blockQ_r ?_ | refine blockQ_e ?_ | refine blockQ_o rfl ?_)
    refine ⟨i + 1, by clear e1; omega, ⟨by simp [e1], ?_, by simp⟩, by clear e1; omega⟩
    have := cst.out
    simp [← this]
  · have hn : ¬ i < xs.length := by omega
    have hc := copied_all zE xs i hl
    repeat' (first | with_reducible refine OutOK.done ?_ | refine thenQ_n ?_ | refine thenQ_r ?_ | refine thenQ_e ?_ | refine AW.seq ?_ | refine AW.reg tok (by simp [*]; rfl) ?_ | refine AW.ifB (by simp [*]; rfl) ?_ | refine IfG.t ?_ | refine IfG.f ?_ | (refine IfG.p (fun hg => ?_) (fun hg => ?_) <;> (try (have hg' := hg; simp at hg'))) | (refine IfG.n (fun hg => ?_) (fun hg => ?_) <;> (try (have hg' := hg; simp at hg'))) | (refine OutOK.gateP (fun hg => ?_) (fun hg => ?_) <;> (try (have hg' := hg; simp at hg'))) | (refine OutOK.gateN (fun hg => ?_) (fun hg => ?_) <;> (try (have hg' := hg; simp at hg'))) | (refine IfG.g (fun hg => ?_) (fun hg => ?_) <;> (try (have hg' := hg; simp at hg'))) | (refine OutOK.gate (fun hg => ?_) (fun hg => ?_) <;> (try (have hg' := hg; simp at hg'))) | (refine OutOK.callF [] (by simp [*]; rfl) (by simp [*]; rfl) (by simp [*]; rfl) hb75 (by apply c_laws_toEdit <;> first | assumption | exact Hd.out (by assumption) | ((try (clear e0)); (try (clear e1)); (try (clear e2)); (try (clear e3)); (try (clear e4)); (try (clear e5)); (try (clear e6)); (try (clear e7)); (try (clear e8)); (try (clear e9)); (try (clear e10)); (try (clear e11)); omega)) ⟨by simp [*], by simp [*], by simp [*], by simp [*], by simp [*]⟩ (by simp [*]) (by simp [*]; rfl) ?_) | refine OutOK.run (by simp [*]; rfl) ?_ | refine AW.ret ?_ | refine AW.skip ?_ | refine AW.exit ?_ | refine fin_r ?_ | refine fin_n ?_ | refine AW.block ?_ | refine blockQ_n ?_ | refine blockQ_r ?_ | refine blockQ_e ?_ | refine blockQ_o rfl ?_)
    simp [Try.f25, hc]
theorem c_laws_eqEdit (e : Edt) (h : e.ck.length < 9223372036854775807) : ACall Try.prog 80 [edtD e, edtD e] [.x, .x] [boo true] := by
  have cq := c_laws_eqIntS e.ck e.ck h
  refine ACall.of (N := 31) tok Try.func80 rfl rfl rfl (by simp) ?_
  repeat' (first | with_reducible refine OutOK.done ?_ | refine thenQ_n ?_ | refine thenQ_r ?_ | refine thenQ_e ?_ | refine AW.seq ?_ | refine AW.reg tok (by simp [*]; rfl) ?_ | refine AW.ifB (by simp [*]; rfl) ?_ | refine IfG.t ?_ | refine IfG.f ?_ | (refine IfG.p (fun hg => ?_) (fun hg => ?_) <;> (try (have hg' := hg; simp at hg'))) | (refine IfG.n (fun hg => ?_) (fun hg => ?_) <;> (try (have hg' := hg; simp at hg'))) | (refine OutOK.gateP (fun hg => ?_) (fun hg => ?_) <;> (try (have hg' := hg; simp at hg'))) | (refine OutOK.gateN (fun hg => ?_) (fun hg => ?_) <;> (try (have hg' := hg; simp at hg'))) | (refine IfG.g (fun hg => ?_) (fun hg => ?_) <;> (try (have hg' := hg; simp at hg'))) | (refine OutOK.gate (fun hg => ?_) (fun hg => ?_) <;> (try (have hg' := hg; simp at hg'))) | (refine OutOK.callF [] (by simp [*]; rfl) (by simp [*]; rfl) (by simp [*]; rfl) hb32 (by apply cq <;> first | assumption | exact Hd.out (by assumption) | ((try (clear e0)); (try (clear e1)); (try (clear e2)); (try (clear e3)); (try (clear e4)); (try (clear e5)); (try (clear e6)); (try (clear e7)); (try (clear e8)); (try (clear e9)); (try (clear e10)); (try (clear e11)); omega)) ⟨by simp [*], by simp [*], by simp [*], by simp [*], by simp [*]⟩ (by simp [*]) (by simp [*]; rfl) ?_) | refine OutOK.run (by simp [*]; rfl) ?_ | refine AW.ret ?_ | refine AW.skip ?_ | refine AW.exit ?_ | refine fin_r ?_ | refine fin_n ?_ | refine AW.block ?_ | refine blockQ_n ?_ | refine blockQ_r ?_ | refine blockQ_e ?_ | refine blockQ_o rfl ?_)
  all_goals (try simp [*, Try.f80])
theorem c_laws_eqEditS (xs : List Edt) (h : xs.length < 9223372036854775807) (hW : ∀ e ∈ xs, EdtW e) : ACall Try.prog 27 [.v (.sl true 5 (edts true xs)), .v (.sl true 5 (edts true xs))] [.x, .x] [boo true] := by
  have hW' : Hd _ := hW
  clear hW
  refine ACall.of (N := 27) tok Try.func27 rfl rfl rfl (by simp) ?_
  repeat' (first | with_reducible refine OutOK.done ?_ | refine thenQ_n ?_ | refine thenQ_r ?_ | refine thenQ_e ?_ | refine AW.seq ?_ | refine AW.dreg tok mixed [7]  [(0, false), (1, false), (2, false), (4, false), (5, false), (6, false), (3, false), (7, true), (8, false), (9, false)] (by decide +kernel) rfl (by simp [*]; rfl) ?_ | refine AW.reg tok (by simp [*]; rfl) ?_ | refine AW.ifB (by simp [*]; rfl) ?_ | refine IfG.t ?_ | refine IfG.f ?_ | (refine IfG.p (fun hg => ?_) (fun hg => ?_) <;> (try (have hg' := hg; simp at hg'))) | (refine IfG.n (fun hg => ?_) (fun hg => ?_) <;> (try (have hg' := hg; simp at hg'))) | (refine OutOK.gateP (fun hg => ?_) (fun hg => ?_) <;> (try (have hg' := hg; simp at hg'))) | (refine OutOK.gateN (fun hg => ?_) (fun hg => ?_) <;> (try (have hg' := hg; simp at hg'))) | (refine IfG.g (fun hg => ?_) (fun hg => ?_) <;> (try (have hg' := hg; simp at hg'))) | (refine OutOK.gate (fun hg => ?_) (fun hg => ?_) <;> (try (have hg' := hg; simp at hg'))) | (refine OutOK.callF [] (by simp [*]; rfl) (by simp [*]; rfl) (by simp [*]; rfl) hb80 (by apply c_laws_eqEdit <;> first | assumption | exact Hd.out (by assumption) | ((try (clear e0)); (try (clear e1)); (try (clear e2)); (try (clear e3)); (try (clear e4)); (try (clear e5)); (try (clear e6)); (try (clear e7)); (try (clear e8)); (try (clear e9)); (try (clear e10)); (try (clear e11)); omega)) ⟨by simp [*], by simp [*], by simp [*], by simp [*], by simp [*]⟩ (by simp [*]) (by simp [*]; rfl) ?_) | refine OutOK.run (by simp [*]; rfl) ?_ | refine AW.ret ?_ | refine AW.skip ?_ | refine AW.exit ?_ | refine fin_r ?_ | refine fin_n ?_ | refine AW.block ?_ | refine blockQ_n ?_ | refine blockQ_r ?_ | refine blockQ_e ?_ | refine blockQ_o rfl ?_)
  refine AW.loopL (fun i => i ≤ xs.length) (fun i => [(0, .c (.sl true 5 (edts true xs))), (1, .c (.sl true 5 (edts true xs))), (5, .c (.sc (.int .i64 (i : Int))))]) (fun _ => []) (fun i => xs.length - i) 0 (Nat.zero_le _) ⟨by simp, by simp, by simp⟩ ?_
  intro i hi
  rcases Nat.lt_or_ge i xs.length with hl | hl
  · have e1 : wrap64 ((i : Int) + 1) = (i : Int) + 1 := w64 (by omega) (by omega)
    have cq := c_laws_eqEdit xs[i] (by have := (hW'.out _ (List.getElem_mem hl)).2.2; omega)
    repeat' (first | with_reducible refine OutOK.done ?_ | refine thenQ_n ?_ | refine thenQ_r ?_ | refine thenQ_e ?_ | refine AW.seq ?_ | refine AW.dreg tok mixed [7]  [(0, false), (1, false), (2, false), (4, false), (5, false), (6, false), (3, false), (7, true), (8, false), (9, false)] (by decide +kernel) rfl (by simp [*]; rfl) ?_ | refine AW.reg tok (by simp [*]; rfl) ?_ | refine AW.ifB (by simp [*]; rfl) ?_ | refine IfG.t ?_ | refine IfG.f ?_ | (refine IfG.p (fun hg => ?_) (fun hg => ?_) <;> (try (have hg' := hg; simp at hg'))) | (refine IfG.n (fun hg => ?_) (fun hg => ?_) <;> (try (have hg' := hg; simp at hg'))) | (refine OutOK.gateP (fun hg => ?_) (fun hg => ?_) <;> (try (have hg' := hg; simp at hg'))) | (refine OutOK.gateN (fun hg => ?_) (fun hg => ?_) <;> (try (have hg' := hg; simp at hg'))) | (refine IfG.g (fun hg => ?_) (fun hg => ?_) <;> (try (have hg' := hg; simp at hg'))) | (refine OutOK.gate (fun hg => ?_) (fun hg => ?_) <;> (try (have hg' := hg; simp at hg'))) | (refine OutOK.callF [] (by simp [*]; rfl) (by simp [*]; rfl) (by simp [*]; rfl) hb80 (by apply cq <;> first | assumption | exact Hd.out (by assumption) | ((try (clear e0)); (try (clear e1)); (try (clear e2)); (try (clear e3)); (try (clear e4)); (try (clear e5)); (try (clear e6)); (try (clear e7)); (try (clear e8)); (try (clear e9)); (try (clear e10)); (try (clear e11)); omega)) ⟨by simp [*], by simp [*], by simp [*], by simp [*], by simp [*]⟩ (by simp [*]) (by simp [*]; rfl) ?_) | refine OutOK.run (by simp [*]; rfl) ?_ | refine AW.ret ?_ | refine AW.skip ?_ | refine AW.exit ?_ | refine fin_r ?_ | refine fin_n ?_ | refine AW.block ?_ | refine blockQ_n ?_ | refine blockQ_r ?_ | refine blockQ_e ?_ | refine blockQ_o rfl ?_)
    exact ⟨i + 1, by ((try (clear e0)); (try (clear e1)); (try (clear e2)); (try (clear e3)); (try (clear e4)); (try (clear e5)); (try (clear e6)); (try (clear e7)); (try (clear e8)); (try (clear e9)); (try (clear e10)); (try (clear e11)); omega), ⟨by simp [e1], by simp, by simp⟩, by ((try (clear e0)); (try (clear e1)); (try (clear e2)); (try (clear e3)); (try (clear e4)); (try (clear e5)); (try (clear e6)); (try (clear e7)); (try (clear e8)); (try (clear e9)); (try (clear e10)); (try (clear e11)); omega)⟩
  · have hn : ¬ i < xs.length := by omega
    repeat' (first | with_reducible refine OutOK.done ?_ | refine thenQ_n ?_ | refine thenQ_r ?_ | refine thenQ_e ?_ | refine AW.seq ?_ | refine AW.dreg tok mixed [7]  [(0, false), (1, false), (2, false), (4, false), (5, false), (6, false), (3, false), (7, true), (8, false), (9, false)] (by decide +kernel) rfl (by simp [*]; rfl) ?_ | refine AW.reg tok (by simp [*]; rfl) ?_ | refine AW.ifB (by simp [*]; rfl) ?_ | refine IfG.t ?_ | refine IfG.f ?_ | (refine IfG.p (fun hg => ?_) (fun hg => ?_) <;> (try (have hg' := hg; simp at hg'))) | (refine IfG.n (fun hg => ?_) (fun hg => ?_) <;> (try (have hg' := hg; simp at hg'))) | (refine OutOK.gateP (fun hg => ?_) (fun hg => ?_) <;> (try (have hg' := hg; simp at hg'))) | (refine OutOK.gateN (fun hg => ?_) (fun hg => ?_) <;> (try (have hg' := hg; simp at hg'))) | (refine IfG.g (fun hg => ?_) (fun hg => ?_) <;> (try (have hg' := hg; simp at hg'))) | (refine OutOK.gate (fun hg => ?_) (fun hg => ?_) <;> (try (have hg' := hg; simp at hg'))) | (refine OutOK.callF [] (by simp [*]; rfl) (by simp [*]; rfl) (by simp [*]; rfl) hb80 (by apply c_laws_eqEdit <;> first | assumption | exact Hd.out (by assumption) | ((try (clear e0)); (try (clear e1)); (try (clear e2)); (try (clear e3)); (try (clear e4)); (try (clear e5)); (try (clear e6)); (try (clear e7)); (try (clear e8)); (try (clear e9)); (try (clear e10)); (try (clear e11)); omega)) ⟨by simp [*], by simp [*], by simp [*], by simp [*], by simp [*]⟩ (by simp [*]) (by simp [*]; rfl) ?_) | refine OutOK.run (by simp [*]; rfl) ?_ | refine AW.ret ?_ | refine AW.skip ?_ | refine AW.exit ?_ | refine fin_r ?_ | refine fin_n ?_ | refine AW.block ?_ | refine blockQ_n ?_ | refine blockQ_r ?_ | refine blockQ_e ?_ | refine blockQ_o rfl ?_)
    all_goals (try simp [*, Try.f27])
end Go.Proofs.Ytbofobjofngoeaa.EngS


set_option linter.unusedSimpArgs false
set_option linter.unusedVariables false
set_option maxHeartbeats 4000000
set_option maxRecDepth 100000
namespace Go.Proofs.Ytbofobjofngoeaa.EngS
open Go Go.Proofs Go.Eng Go.RowKit
attribute [local irreducible] Go.RowKit.wrap64
def mkE (k n : Nat) : Edt := ⟨k, (k + 1 : Nat), upTo (k + 2 : Nat) n, mkTx (k + 2 + n), mkTx (k + 3 + n)⟩
def mkEs : Nat → List Nat → List Edt
  | _, [] => []
  | k, n :: r => mkE k n :: mkEs (k + 4 + n) r
def totE : List Nat → Nat
  | [] => 0
  | n :: r => 4 + n + totE r
theorem totE_app (a b : List Nat) : totE (a ++ b) = totE a + totE b := by
  induction a with
  | nil => simp [totE]
  | cons n r ih => simp only [List.cons_append, totE, ih]; omega
@[simp] theorem mkEs_len : ∀ (k : Nat) (ns : List Nat), (mkEs k ns).length = ns.length
  | _, [] => rfl
  | k, n :: r => by simp [mkEs, mkEs_len]
theorem mkEs_app : ∀ (k : Nat) (a b : List Nat), mkEs k (a ++ b) = mkEs k a ++ mkEs (k + totE a) b
  | k, [], b => by simp [mkEs, totE]
  | k, n :: r, b => by simp only [List.cons_append, mkEs, totE, mkEs_app]; rw [show k + 4 + n + totE r = k + (4 + n + totE r) by omega]
def lens (l : List Edt) : List Nat := l.map (·.ck.length)
@[simp] theorem lens_len (l) : (lens l).length = l.length := by simp [lens]
def mkI (k : Nat) (l : List Edt) (i : Nat) : List Edt := mkEs k ((lens l).take i) ++ l.drop i
@[simp] theorem mkI_len (k l i) (h : i ≤ l.length) : (mkI k l i).length = l.length := by simp [mkI]; omega
theorem mkI_zero (k l) : mkI k l 0 = l := by simp [mkI, mkEs]
theorem mkI_all (k l) : mkI k l l.length = mkEs k (lens l) := by simp [mkI, List.take_of_length_le]
theorem totE_step (l : List Edt) (i : Nat) (h : i < l.length) : totE ((lens l).take (i + 1)) = totE ((lens l).take i) + 4 + l[i].ck.length := by
  rw [List.take_succ_eq_append_getElem (by simpa using h), totE_app]
  simp [totE, lens]; omega
theorem mkI_at (k l i) (h : i < l.length) (h2 : i < (mkI k l i).length) : (mkI k l i)[i] = l[i] := by
  have : (mkI k l i)[i]? = some l[i] := by
    rw [mkI, List.getElem?_append_right (by simp; omega)]
    simp
    rw [show i - min i l.length = 0 by omega]
    simp [h]
  rw [List.getElem?_eq_getElem h2] at this
  simpa using this
theorem mkI_step (k l i) (h : i < l.length) : (mkI k l i).set i (mkE (k + totE ((lens l).take i)) l[i].ck.length) = mkI k l (i + 1) := by
  have hl : (mkEs k ((lens l).take i)).length = i := by simp; omega
  rw [mkI, List.set_append_right _ _ (by omega), hl, List.drop_eq_getElem_cons h, Nat.sub_self, List.set_cons_zero, mkI, List.take_succ_eq_append_getElem (by simpa using h), mkEs_app]
  simp [mkEs, lens]
theorem totE_lens (l : List Edt) : totE (lens l) = 4 * l.length + ckS l := by
  induction l with
  | nil => rfl
  | cons e r ih => simp only [lens, List.map_cons, totE, List.length_cons, ckS] at ih ⊢; rw [ih]; omega
theorem totE_take (ns : List Nat) (i : Nat) : totE (ns.take i) ≤ totE ns := by
  have h : totE (ns.take i ++ ns.drop i) = totE ns := by rw [List.take_append_drop]
  rw [totE_app] at h; omega
theorem upE (K n : Nat) (h : K ≤ 10000000000000) (hn : n ≤ 1048576) : ∃ a b c d s : Nat, Hd (a = K + 1 ∧ b = K + 2 ∧ c = K + 2 + n ∧ d = K + 3 + n ∧ s = K + 4 + n) ∧ wrap64 ((K : Int) + 1) = a ∧ wrap64 ((a : Int) + 1) = b ∧ (b : Int) + (n : Int) = c ∧ wrap64 ((c : Int) + 1) = d ∧ wrap64 ((d : Int) + 1) = s ∧ c ≠ 0 ∧ d ≠ 0 := by
  refine ⟨K + 1, K + 2, K + 2 + n, K + 3 + n, K + 4 + n, ⟨rfl, rfl, rfl, rfl, rfl⟩, ?_, ?_, by omega, ?_, ?_, by omega, by omega⟩
  all_goals (rw [w64 (by omega) (by omega)]; omega)
theorem c_laws_markEditS (l : List Edt) (k : Nat) (h : l.length ≤ 1048576) (hT : ckS l ≤ 1048576) (h1 : 0 < k) (h2 : k ≤ 1000000) : ACall Try.prog 33 [.v (.sl false 5 (edts false l)), int k] [.v (.sl false 5 (edts false (mkEs k (lens l)))), .x] [int ((k + totE (lens l) : Nat) : Int)] := by
  have hb' : Hd (∀ e ∈ l, e.ck.length ≤ 1048576) := fun e he => by
    have h3 : ∀ r : List Edt, e ∈ r → e.ck.length ≤ ckS r := by
      intro r
      induction r with
      | nil => intro h; simp at h
      | cons x r ih =>
        intro h
        rcases List.mem_cons.1 h with rfl | h
        · simp only [ckS]; omega
        · have := ih h; simp only [ckS]; omega
    have := h3 l he; omega
  have htot : Hd (∀ i, totE ((lens l).take i) ≤ 200000000000) := fun i => by have h4 := totE_take (lens l) i; have h5 := totE_lens l; omega
  clear hT
  refine ACall.of (N := 50) tok Try.func33 rfl rfl rfl (by simp) ?_
  repeat' (first | with_reducible refine OutOK.done ?_ | refine thenQ_n ?_ | refine thenQ_r ?_ | refine thenQ_e ?_ | refine AW.seq ?_ | refine AW.reg tok (by simp [*]; rfl) ?_ | refine AW.ifB (by simp [*]; rfl) ?_ | refine IfG.t ?_ | refine IfG.f ?_ | (refine IfG.p (fun hg => ?_) (fun hg => ?_) <;> (try (have hg' := hg; simp at hg'))) | (refine IfG.n (fun hg => ?_) (fun hg => ?_) <;> (try (have hg' := hg; simp at hg'))) | (refine OutOK.gateP (fun hg => ?_) (fun hg => ?_) <;> (try (have hg' := hg; simp at hg'))) | (refine OutOK.gateN (fun hg => ?_) (fun hg => ?_) <;> (try (have hg' := hg; simp at hg'))) | (refine IfG.g (fun hg => ?_) (fun hg => ?_) <;> (try (have hg' := hg; simp at hg'))) | (refine OutOK.gate (fun hg => ?_) (fun hg => ?_) <;> (try (have hg' := hg; simp at hg'))) | refine OutOK.run (by simp [*]; rfl) ?_ | refine AW.ret ?_ | refine AW.skip ?_ | refine AW.exit ?_ | refine fin_r ?_ | refine fin_n ?_ | refine AW.block ?_ | refine blockQ_n ?_ | refine blockQ_r ?_ | refine blockQ_e ?_ | refine blockQ_o rfl ?_)
  refine AW.loopL (fun i => i ≤ l.length) (fun i => [(0, .rf 100000000 []), (1, .c (.sc (.int .i64 ((k + totE ((lens l).take i) : Nat) : Int)))), (5, .c (.sc (.int .i64 (i : Int))))]) (fun i => [(100000000, .sv (.sl false 5 (edts false (mkI k l i))))]) (fun i => l.length - i) 0 (Nat.zero_le _) ⟨by simp [totE], by simp [mkI_zero], by simp⟩ ?_
  intro i hi
  rcases Nat.lt_or_ge i l.length with hl | hl
  · have e0 : wrap64 ((i : Int) + 1) = (i : Int) + 1 := w64 (by omega) (by omega)
    have hbi := hb'.out _ (List.getElem_mem hl)
    have hti := htot.out i
    have hL : (mkI k l i).length = l.length := mkI_len k l i hi
    have hat : ∀ h2, (mkI k l i)[i]'h2 = l[i] := fun h2 => mkI_at k l i hl h2
    have hst : Hd ((mkI k l i).set i (mkE (k + totE ((lens l).take i)) l[i].ck.length) = mkI k l (i + 1)) := mkI_step k l i hl
    have hts : Hd (totE ((lens l).take (i + 1)) = totE ((lens l).take i) + 4 + l[i].ck.length) := totE_step l i hl
    obtain ⟨K, hK⟩ : ∃ K, K = k + totE ((lens l).take i) := ⟨_, rfl⟩
    have hKb : K ≤ 10000000000000 := by ((try (clear e0)); (try (clear e1)); (try (clear e2)); (try (clear e3)); (try (clear e4)); (try (clear e5)); (try (clear e6)); (try (clear e7)); (try (clear e8)); (try (clear e9)); (try (clear e10)); (try (clear e11)); omega)
    rw [← hK] at hst ⊢
    obtain ⟨tm, ct, ck, it, tx, he⟩ : ∃ tm ct ck it tx, l[i] = ⟨tm, ct, ck, it, tx⟩ := ⟨_, _, _, _, _, rfl⟩
    rw [he] at hbi hst hts
    simp only at hbi hst hts
    obtain ⟨a, b, c, d, s, hE, q1, q2, q3, q4, q5, z1, z2⟩ := upE K ck.length hKb hbi
    have cm := c_laws_markIntS ck b hbi (by ((try (clear e0)); (try (clear e1)); (try (clear e2)); (try (clear e3)); (try (clear e4)); (try (clear e5)); (try (clear e6)); (try (clear e7)); (try (clear e8)); (try (clear e9)); (try (clear e10)); (try (clear e11)); omega)) (by have := hE.out; clear q1 q2 q3 q4 q5; ((try (clear e0)); (try (clear e1)); (try (clear e2)); (try (clear e3)); (try (clear e4)); (try (clear e5)); (try (clear e6)); (try (clear e7)); (try (clear e8)); (try (clear e9)); (try (clear e10)); (try (clear e11)); omega))
    rw [q3] at cm
    have t1 := c_laws_markText c z1 (by have := hE.out; clear q1 q2 q3 q4 q5; ((try (clear e0)); (try (clear e1)); (try (clear e2)); (try (clear e3)); (try (clear e4)); (try (clear e5)); (try (clear e6)); (try (clear e7)); (try (clear e8)); (try (clear e9)); (try (clear e10)); (try (clear e11)); omega))
    have t2 := c_laws_markText d z2 (by have := hE.out; clear q1 q2 q3 q4 q5; ((try (clear e0)); (try (clear e1)); (try (clear e2)); (try (clear e3)); (try (clear e4)); (try (clear e5)); (try (clear e6)); (try (clear e7)); (try (clear e8)); (try (clear e9)); (try (clear e10)); (try (clear e11)); omega))
    have hK' : Hd (K = k + totE ((lens l).take i)) := hK
    clear hK hti
    have hiL : i < (mkI k l i).length := by ((try (clear e0)); (try (clear e1)); (try (clear e2)); (try (clear e3)); (try (clear e4)); (try (clear e5)); (try (clear e6)); (try (clear e7)); (try (clear e8)); (try (clear e9)); (try (clear e10)); (try (clear e11)); omega)
    have hat' : (mkI k l i)[i] = ⟨tm, ct, ck, it, tx⟩ := by rw [hat hiL, he]
    clear hat he
    generalize hM : mkI k l i = M at *
    replace hM : Hd _ := hM
    clear hL
    repeat' (first | with_reducible refine OutOK.done ?_ | refine thenQ_n ?_ | refine thenQ_r ?_ | refine thenQ_e ?_ | refine AW.seq ?_ | refine AW.reg tok (by simp [*]; rfl) ?_ | refine AW.ifB (by simp [*]; rfl) ?_ | refine IfG.t ?_ | refine IfG.f ?_ | (refine IfG.p (fun hg => ?_) (fun hg => ?_) <;> (try (have hg' := hg; simp at hg'))) | (refine IfG.n (fun hg => ?_) (fun hg => ?_) <;> (try (have hg' := hg; simp at hg'))) | (refine OutOK.gateP (fun hg => ?_) (fun hg => ?_) <;> (try (have hg' := hg; simp at hg'))) | (refine OutOK.gateN (fun hg => ?_) (fun hg => ?_) <;> (try (have hg' := hg; simp at hg'))) | (refine IfG.g (fun hg => ?_) (fun hg => ?_) <;> (try (have hg' := hg; simp at hg'))) | (refine OutOK.gate (fun hg => ?_) (fun hg => ?_) <;> (try (have hg' := hg; simp at hg'))) | (refine OutOK.callF [true, false] (by simp [*]; rfl) (by simp [*]; rfl) (by simp [*]; rfl) hb34 (by apply cm <;> first | assumption | exact Hd.out (by assumption) | ((try (clear e0)); (try (clear e1)); (try (clear e2)); (try (clear e3)); (try (clear e4)); (try (clear e5)); (try (clear e6)); (try (clear e7)); (try (clear e8)); (try (clear e9)); (try (clear e10)); (try (clear e11)); omega)) ⟨by simp [*], by simp [*], by simp [*], by simp [*], by simp [*]⟩ (by simp [*]) (by simp [*]; rfl) ?_) | (refine OutOK.callF [] (by simp [*]; rfl) (by simp [*]; rfl) (by simp [*]; rfl) hb85 (by apply t1 <;> first | assumption | exact Hd.out (by assumption) | ((try (clear e0)); (try (clear e1)); (try (clear e2)); (try (clear e3)); (try (clear e4)); (try (clear e5)); (try (clear e6)); (try (clear e7)); (try (clear e8)); (try (clear e9)); (try (clear e10)); (try (clear e11)); omega)) ⟨by simp [*], by simp [*], by simp [*], by simp [*], by simp [*]⟩ (by simp [*]) (by simp [*]; rfl) ?_) | (refine OutOK.callF [] (by simp [*]; rfl) (by simp [*]; rfl) (by simp [*]; rfl) hb85 (by apply t2 <;> first | assumption | exact Hd.out (by assumption) | ((try (clear e0)); (try (clear e1)); (try (clear e2)); (try (clear e3)); (try (clear e4)); (try (clear e5)); (try (clear e6)); (try (clear e7)); (try (clear e8)); (try (clear e9)); (try (clear e10)); (try (clear e11)); omega)) ⟨by simp [*], by simp [*], by simp [*], by simp [*], by simp [*]⟩ (by simp [*]) (by simp [*]; rfl) ?_) | refine OutOK.run (by simp [*]; rfl) ?_ | refine AW.ret ?_ | refine AW.skip ?_ | refine AW.exit ?_ | refine fin_r ?_ | refine fin_n ?_ | refine AW.block ?_ | refine blockQ_n ?_ | refine blockQ_r ?_ | refine blockQ_e ?_ | refine blockQ_o rfl ?_)
    obtain ⟨r1, r2, r3, r4, r5⟩ := hE.out
    have ht : mkE K ck.length = ⟨K, a, upTo b ck.length, mkTx c, mkTx d⟩ := by rw [mkE, r1, r2, r3, r4]
    refine ⟨i + 1, by ((try (clear e0)); (try (clear e1)); (try (clear e2)); (try (clear e3)); (try (clear e4)); (try (clear e5)); (try (clear e6)); (try (clear e7)); (try (clear e8)); (try (clear e9)); (try (clear e10)); (try (clear e11)); omega), ⟨?_, ?_, by simp⟩, by ((try (clear e0)); (try (clear e1)); (try (clear e2)); (try (clear e3)); (try (clear e4)); (try (clear e5)); (try (clear e6)); (try (clear e7)); (try (clear e8)); (try (clear e9)); (try (clear e10)); (try (clear e11)); omega)⟩
    · have := hts.out; have := hK'.out
      simp [e0]; clear e0 q1 q2 q3 q4 q5; omega
    · rw [← hst.out, ht]
      simp [mkTx]
  · have hx : i = l.length := by omega
    subst hx
    have ht : (lens l).take l.length = lens l := List.take_of_length_le (by simp)
    repeat' (first | with_reducible refine OutOK.done ?_ | refine thenQ_n ?_ | refine thenQ_r ?_ | refine thenQ_e ?_ | refine AW.seq ?_ | refine AW.reg tok (by simp [*]; rfl) ?_ | refine AW.ifB (by simp [*]; rfl) ?_ | refine IfG.t ?_ | refine IfG.f ?_ | (refine IfG.p (fun hg => ?_) (fun hg => ?_) <;> (try (have hg' := hg; simp at hg'))) | (refine IfG.n (fun hg => ?_) (fun hg => ?_) <;> (try (have hg' := hg; simp at hg'))) | (refine OutOK.gateP (fun hg => ?_) (fun hg => ?_) <;> (try (have hg' := hg; simp at hg'))) | (refine OutOK.gateN (fun hg => ?_) (fun hg => ?_) <;> (try (have hg' := hg; simp at hg'))) | (refine IfG.g (fun hg => ?_) (fun hg => ?_) <;> (try (have hg' := hg; simp at hg'))) | (refine OutOK.gate (fun hg => ?_) (fun hg => ?_) <;> (try (have hg' := hg; simp at hg'))) | refine OutOK.run (by simp [*]; rfl) ?_ | refine AW.ret ?_ | refine AW.skip ?_ | refine AW.exit ?_ | refine fin_r ?_ | refine fin_n ?_ | refine AW.block ?_ | refine blockQ_n ?_ | refine blockQ_r ?_ | refine blockQ_e ?_ | refine blockQ_o rfl ?_)
    simp [Try.f33, mkI_all, ht]
end Go.Proofs.Ytbofobjofngoeaa.EngS


set_option linter.unusedSimpArgs false
set_option linter.unusedVariables false
set_option maxHeartbeats 4000000
set_option maxRecDepth 100000
namespace Go.Proofs.Ytbofobjofngoeaa.EngS
open Go Go.Proofs Go.Eng Go.RowKit
attribute [local irreducible] Go.RowKit.wrap64
def ckAt (ck : List Int) (t : Int) : Int := ck[t.toNat]?.getD 0
theorem cmpI_zero {a b : Int} : cmpI a b = 0 ↔ a = b := by unfold cmpI; split <;> (try split) <;> omega
theorem cmpI_neg {a b : Int} : cmpI a b < 0 ↔ a < b := by unfold cmpI; split <;> (try split) <;> omega
theorem cmpE_zero {a b : Edt} : cmpE a b = 0 ↔ a.tm = b.tm ∧ a.ct = b.ct := by
  unfold cmpE
  split
  · rename_i h; rw [cmpI_zero] at h ⊢; simp [h]
  · rename_i h; rw [cmpI_zero] at h; constructor
    · intro h2; exact absurd (cmpI_zero.1 h2) h
    · intro h2; exact absurd h2.1 h
theorem cmpE_neg {a b : Edt} : cmpE a b < 0 ↔ a.tm < b.tm ∨ a.tm = b.tm ∧ a.ct < b.ct := by
  unfold cmpE
  split
  · rename_i h; rw [cmpI_zero] at h; rw [cmpI_neg]; omega
  · rename_i h; rw [cmpI_zero] at h; rw [cmpI_neg]; omega
def precE (a b : Edt) : Bool := (!(decide (a.tm = b.tm) && decide (a.ct = b.ct))) && inR 0 ((b.ck.length : Int) - 1) a.tm && decide (a.ct ≤ ckAt b.ck a.tm)
theorem c_impl_Precedes (a b : Edt) (h : b.ck.length ≤ 4611686018427387904) : ACall Try.prog 40 [edtD a, edtD b] [.x, .x] [boo (precE a b)] := by
  have e1 : wrap64 ((b.ck.length : Int) - 1) = (b.ck.length : Int) - 1 := w64 (by omega) (by omega)
  have cc := c_impl_compareEdits a b
  by_cases hz : a.tm = b.tm ∧ a.ct = b.ct
  · rw [cmpE_zero.2 hz] at cc
    have hp : precE a b = false := by simp [precE, hz]
    clear hz
    refine ACall.of (N := 29) tok Try.func40 rfl rfl rfl (by simp) ?_
    repeat' (first | with_reducible refine OutOK.done ?_ | refine thenQ_n ?_ | refine thenQ_r ?_ | refine thenQ_e ?_ | refine AW.seq ?_ | refine AW.dreg tok mixed [1, 8, 9, 10, 17, 21]  [(0, false), (1, true), (2, false), (3, false), (4, false), (5, false), (7, false), (6, false), (8, true), (9, true), (10, true), (11, false), (12, false), (13, false), (14, false), (16, false), (20, false), (15, false), (17, true), (18, false), (19, false), (21, true), (22, false), (23, false), (24, false)] (by decide +kernel) rfl (by simp [*]; rfl) ?_ | refine AW.reg tok (by simp [*]; rfl) ?_ | refine AW.ifB (by simp [*]; rfl) ?_ | refine IfG.t ?_ | refine IfG.f ?_ | (refine IfG.p (fun hg => ?_) (fun hg => ?_) <;> (try (have hg' := hg; simp at hg'))) | (refine IfG.n (fun hg => ?_) (fun hg => ?_) <;> (try (have hg' := hg; simp at hg'))) | (refine OutOK.gateP (fun hg => ?_) (fun hg => ?_) <;> (try (have hg' := hg; simp at hg'))) | (refine OutOK.gateN (fun hg => ?_) (fun hg => ?_) <;> (try (have hg' := hg; simp at hg'))) | (refine IfG.g (fun hg => ?_) (fun hg => ?_) <;> (try (have hg' := hg; simp at hg'))) | (refine OutOK.gate (fun hg => ?_) (fun hg => ?_) <;> (try (have hg' := hg; simp at hg'))) | (refine OutOK.callF [] (by simp [*]; rfl) (by simp [*]; rfl) (by simp [*]; rfl) hb76 (by apply cc <;> first | assumption | exact Hd.out (by assumption) | ((try (clear e0)); (try (clear e1)); (try (clear e2)); (try (clear e3)); (try (clear e4)); (try (clear e5)); (try (clear e6)); (try (clear e7)); (try (clear e8)); (try (clear e9)); (try (clear e10)); (try (clear e11)); omega)) ⟨by simp [*], by simp [*], by simp [*], by simp [*], by simp [*]⟩ (by simp [*]) (by simp [*]; rfl) ?_) | (refine OutOK.callF [] (by simp [*]; rfl) (by simp [*]; rfl) (by simp [*]; rfl) hb59 (by apply c_impl_within <;> first | assumption | exact Hd.out (by assumption) | ((try (clear e0)); (try (clear e1)); (try (clear e2)); (try (clear e3)); (try (clear e4)); (try (clear e5)); (try (clear e6)); (try (clear e7)); (try (clear e8)); (try (clear e9)); (try (clear e10)); (try (clear e11)); omega)) ⟨by simp [*], by simp [*], by simp [*], by simp [*], by simp [*]⟩ (by simp [*]) (by simp [*]; rfl) ?_) | refine OutOK.run (by simp [*]; rfl) ?_ | refine AW.ret ?_ | refine AW.skip ?_ | refine AW.exit ?_ | refine fin_r ?_ | refine fin_n ?_ | refine AW.block ?_ | refine blockQ_n ?_ | refine blockQ_r ?_ | refine blockQ_e ?_ | refine blockQ_o rfl ?_)
    simp [Try.f40, hp]
  have hcz : ¬ cmpE a b = 0 := fun e => hz (cmpE_zero.1 e)
  generalize cmpE a b = z at *
  have hk : Hd ((!(decide (a.tm = b.tm) && decide (a.ct = b.ct))) = true) := by simp only [Hd, Bool.not_eq_true', Bool.and_eq_false_iff, decide_eq_false_iff_not]; omega
  clear hz
  cases hR : inR 0 ((b.ck.length : Int) - 1) a.tm with
  | false =>
    have hp : precE a b = false := by simp [precE, hR]
    refine ACall.of (N := 29) tok Try.func40 rfl rfl rfl (by simp) ?_
    repeat' (first | with_reducible refine OutOK.done ?_ | refine thenQ_n ?_ | refine thenQ_r ?_ | refine thenQ_e ?_ | refine AW.seq ?_ | refine AW.dreg tok mixed [1, 8, 9, 10, 17, 21]  [(0, false), (1, true), (2, false), (3, false), (4, false), (5, false), (7, false), (6, false), (8, true), (9, true), (10, true), (11, false), (12, false), (13, false), (14, false), (16, false), (20, false), (15, false), (17, true), (18, false), (19, false), (21, true), (22, false), (23, false), (24, false)] (by decide +kernel) rfl (by simp [*]; rfl) ?_ | refine AW.reg tok (by simp [*]; rfl) ?_ | refine AW.ifB (by simp [*]; rfl) ?_ | refine IfG.t ?_ | refine IfG.f ?_ | (refine IfG.p (fun hg => ?_) (fun hg => ?_) <;> (try (have hg' := hg; simp at hg'))) | (refine IfG.n (fun hg => ?_) (fun hg => ?_) <;> (try (have hg' := hg; simp at hg'))) | (refine OutOK.gateP (fun hg => ?_) (fun hg => ?_) <;> (try (have hg' := hg; simp at hg'))) | (refine OutOK.gateN (fun hg => ?_) (fun hg => ?_) <;> (try (have hg' := hg; simp at hg'))) | (refine IfG.g (fun hg => ?_) (fun hg => ?_) <;> (try (have hg' := hg; simp at hg'))) | (refine OutOK.gate (fun hg => ?_) (fun hg => ?_) <;> (try (have hg' := hg; simp at hg'))) | (refine OutOK.callF [] (by simp [*]; rfl) (by simp [*]; rfl) (by simp [*]; rfl) hb76 (by apply cc <;> first | assumption | exact Hd.out (by assumption) | ((try (clear e0)); (try (clear e1)); (try (clear e2)); (try (clear e3)); (try (clear e4)); (try (clear e5)); (try (clear e6)); (try (clear e7)); (try (clear e8)); (try (clear e9)); (try (clear e10)); (try (clear e11)); omega)) ⟨by simp [*], by simp [*], by simp [*], by simp [*], by simp [*]⟩ (by simp [*]) (by simp [*]; rfl) ?_) | (refine OutOK.callF [] (by simp [*]; rfl) (by simp [*]; rfl) (by simp [*]; rfl) hb59 (by apply c_impl_within <;> first | assumption | exact Hd.out (by assumption) | ((try (clear e0)); (try (clear e1)); (try (clear e2)); (try (clear e3)); (try (clear e4)); (try (clear e5)); (try (clear e6)); (try (clear e7)); (try (clear e8)); (try (clear e9)); (try (clear e10)); (try (clear e11)); omega)) ⟨by simp [*], by simp [*], by simp [*], by simp [*], by simp [*]⟩ (by simp [*]) (by simp [*]; rfl) ?_) | refine OutOK.run (by simp [*]; rfl) ?_ | refine AW.ret ?_ | refine AW.skip ?_ | refine AW.exit ?_ | refine fin_r ?_ | refine fin_n ?_ | refine AW.block ?_ | refine blockQ_n ?_ | refine blockQ_r ?_ | refine blockQ_e ?_ | refine blockQ_o rfl ?_)
    all_goals simp [Try.f40, hp]
  | true =>
    obtain ⟨r1, r2⟩ := inR_iff.1 hR
    obtain ⟨n, hn⟩ : ∃ n : Nat, a.tm = (n : Int) := ⟨a.tm.toNat, by omega⟩
    have hnl : n < b.ck.length := by omega
    rw [hn] at hR
    have hp : Hd (precE a b = decide (a.ct ≤ b.ck[n])) := by rw [Hd, precE, hk.out, hn, hR]; simp [ckAt, hnl]
    clear r1 r2
    obtain ⟨tm, ct, ck, it, tx⟩ := a
    simp only at hn cc hp hR
    subst hn
    refine ACall.of (N := 29) tok Try.func40 rfl rfl rfl (by simp) ?_
    repeat' (first | with_reducible refine OutOK.done ?_ | refine thenQ_n ?_ | refine thenQ_r ?_ | refine thenQ_e ?_ | refine AW.seq ?_ | refine AW.dreg tok mixed [1, 8, 9, 10, 17, 21]  [(0, false), (1, true), (2, false), (3, false), (4, false), (5, false), (7, false), (6, false), (8, true), (9, true), (10, true), (11, false), (12, false), (13, false), (14, false), (16, false), (20, false), (15, false), (17, true), (18, false), (19, false), (21, true), (22, false), (23, false), (24, false)] (by decide +kernel) rfl (by simp [*]; rfl) ?_ | refine AW.reg tok (by simp [*]; rfl) ?_ | refine AW.ifB (by simp [*]; rfl) ?_ | refine IfG.t ?_ | refine IfG.f ?_ | (refine IfG.p (fun hg => ?_) (fun hg => ?_) <;> (try (have hg' := hg; simp at hg'))) | (refine IfG.n (fun hg => ?_) (fun hg => ?_) <;> (try (have hg' := hg; simp at hg'))) | (refine OutOK.gateP (fun hg => ?_) (fun hg => ?_) <;> (try (have hg' := hg; simp at hg'))) | (refine OutOK.gateN (fun hg => ?_) (fun hg => ?_) <;> (try (have hg' := hg; simp at hg'))) | (refine IfG.g (fun hg => ?_) (fun hg => ?_) <;> (try (have hg' := hg; simp at hg'))) | (refine OutOK.gate (fun hg => ?_) (fun hg => ?_) <;> (try (have hg' := hg; simp at hg'))) | (refine OutOK.callF [] (by simp [*]; rfl) (by simp [*]; rfl) (by simp [*]; rfl) hb76 (by apply cc <;> first | assumption | exact Hd.out (by assumption) | ((try (clear e0)); (try (clear e1)); (try (clear e2)); (try (clear e3)); (try (clear e4)); (try (clear e5)); (try (clear e6)); (try (clear e7)); (try (clear e8)); (try (clear e9)); (try (clear e10)); (try (clear e11)); omega)) ⟨by simp [*], by simp [*], by simp [*], by simp [*], by simp [*]⟩ (by simp [*]) (by simp [*]; rfl) ?_) | (refine OutOK.callF [] (by simp [*]; rfl) (by simp [*]; rfl) (by simp [*]; rfl) hb59 (by apply c_impl_within <;> first | assumption | exact Hd.out (by assumption) | ((try (clear e0)); (try (clear e1)); (try (clear e2)); (try (clear e3)); (try (clear e4)); (try (clear e5)); (try (clear e6)); (try (clear e7)); (try (clear e8)); (try (clear e9)); (try (clear e10)); (try (clear e11)); omega)) ⟨by simp [*], by simp [*], by simp [*], by simp [*], by simp [*]⟩ (by simp [*]) (by simp [*]; rfl) ?_) | refine OutOK.run (by simp [*]; rfl) ?_ | refine AW.ret ?_ | refine AW.skip ?_ | refine AW.exit ?_ | refine fin_r ?_ | refine fin_n ?_ | refine AW.block ?_ | refine blockQ_n ?_ | refine blockQ_r ?_ | refine blockQ_e ?_ | refine blockQ_o rfl ?_)
    all_goals simp [Try.f40, hp.out]
theorem c_spec_l22Precedes (a b : Edt) (h : b.ck.length ≤ 4611686018427387904) : ACall Try.prog 87 [edtD a, edtD b] [.x, .x] [boo (precE a b)] := by
  have e1 : wrap64 ((b.ck.length : Int) - 1) = (b.ck.length : Int) - 1 := w64 (by omega) (by omega)
  by_cases hz : a.tm = b.tm ∧ a.ct = b.ct
  · have hp : precE a b = false := by simp [precE, hz]
    obtain ⟨z1, z2⟩ := hz
    refine ACall.of (N := 36) tok Try.func87 rfl rfl rfl (by simp) ?_
    repeat' (first | with_reducible refine OutOK.done ?_ | refine thenQ_n ?_ | refine thenQ_r ?_ | refine thenQ_e ?_ | refine AW.seq ?_ | refine AW.dreg tok mixed [3, 7]  [(0, false), (2, false), (6, false), (1, false), (3, true), (4, false), (5, false), (7, true), (8, false), (9, false)] (by decide +kernel) rfl (by simp [*]; rfl) ?_ | refine AW.reg tok (by simp [*]; rfl) ?_ | refine AW.ifB (by simp [*]; rfl) ?_ | refine IfG.t ?_ | refine IfG.f ?_ | (refine IfG.p (fun hg => ?_) (fun hg => ?_) <;> (try (have hg' := hg; simp at hg'))) | (refine IfG.n (fun hg => ?_) (fun hg => ?_) <;> (try (have hg' := hg; simp at hg'))) | (refine OutOK.gateP (fun hg => ?_) (fun hg => ?_) <;> (try (have hg' := hg; simp at hg'))) | (refine OutOK.gateN (fun hg => ?_) (fun hg => ?_) <;> (try (have hg' := hg; simp at hg'))) | (refine IfG.g (fun hg => ?_) (fun hg => ?_) <;> (try (have hg' := hg; simp at hg'))) | (refine OutOK.gate (fun hg => ?_) (fun hg => ?_) <;> (try (have hg' := hg; simp at hg'))) | (refine OutOK.callF [] (by simp [*]; rfl) (by simp [*]; rfl) (by simp [*]; rfl) hb64 (by apply c_spec_l1In <;> first | assumption | exact Hd.out (by assumption) | ((try (clear e0)); (try (clear e1)); (try (clear e2)); (try (clear e3)); (try (clear e4)); (try (clear e5)); (try (clear e6)); (try (clear e7)); (try (clear e8)); (try (clear e9)); (try (clear e10)); (try (clear e11)); omega)) ⟨by simp [*], by simp [*], by simp [*], by simp [*], by simp [*]⟩ (by simp [*]) (by simp [*]; rfl) ?_) | refine OutOK.run (by simp [*]; rfl) ?_ | refine AW.ret ?_ | refine AW.skip ?_ | refine AW.exit ?_ | refine fin_r ?_ | refine fin_n ?_ | refine AW.block ?_ | refine blockQ_n ?_ | refine blockQ_r ?_ | refine blockQ_e ?_ | refine blockQ_o rfl ?_)
    all_goals simp [Try.f87, hp]
  have hk : Hd ((!(decide (a.tm = b.tm) && decide (a.ct = b.ct))) = true) := by simp only [Hd, Bool.not_eq_true', Bool.and_eq_false_iff, decide_eq_false_iff_not]; omega
  have hz' : ¬ a.tm = b.tm ∨ (a.tm = b.tm ∧ ¬ a.ct = b.ct) := by omega
  clear hz
  cases hR : inR 0 ((b.ck.length : Int) - 1) a.tm with
  | false =>
    have hp : precE a b = false := by simp [precE, hR]
    refine ACall.of (N := 36) tok Try.func87 rfl rfl rfl (by simp) ?_
    rcases hz' with hz' | ⟨z1, z2⟩
    · repeat' (first | with_reducible refine OutOK.done ?_ | refine thenQ_n ?_ | refine thenQ_r ?_ | refine thenQ_e ?_ | refine AW.seq ?_ | refine AW.dreg tok mixed [3, 7]  [(0, false), (2, false), (6, false), (1, false), (3, true), (4, false), (5, false), (7, true), (8, false), (9, false)] (by decide +kernel) rfl (by simp [*]; rfl) ?_ | refine AW.reg tok (by simp [*]; rfl) ?_ | refine AW.ifB (by simp [*]; rfl) ?_ | refine IfG.t ?_ | refine IfG.f ?_ | (refine IfG.p (fun hg => ?_) (fun hg => ?_) <;> (try (have hg' := hg; simp at hg'))) | (refine IfG.n (fun hg => ?_) (fun hg => ?_) <;> (try (have hg' := hg; simp at hg'))) | (refine OutOK.gateP (fun hg => ?_) (fun hg => ?_) <;> (try (have hg' := hg; simp at hg'))) | (refine OutOK.gateN (fun hg => ?_) (fun hg => ?_) <;> (try (have hg' := hg; simp at hg'))) | (refine IfG.g (fun hg => ?_) (fun hg => ?_) <;> (try (have hg' := hg; simp at hg'))) | (refine OutOK.gate (fun hg => ?_) (fun hg => ?_) <;> (try (have hg' := hg; simp at hg'))) | (refine OutOK.callF [] (by simp [*]; rfl) (by simp [*]; rfl) (by simp [*]; rfl) hb64 (by apply c_spec_l1In <;> first | assumption | exact Hd.out (by assumption) | ((try (clear e0)); (try (clear e1)); (try (clear e2)); (try (clear e3)); (try (clear e4)); (try (clear e5)); (try (clear e6)); (try (clear e7)); (try (clear e8)); (try (clear e9)); (try (clear e10)); (try (clear e11)); omega)) ⟨by simp [*], by simp [*], by simp [*], by simp [*], by simp [*]⟩ (by simp [*]) (by simp [*]; rfl) ?_) | refine OutOK.run (by simp [*]; rfl) ?_ | refine AW.ret ?_ | refine AW.skip ?_ | refine AW.exit ?_ | refine fin_r ?_ | refine fin_n ?_ | refine AW.block ?_ | refine blockQ_n ?_ | refine blockQ_r ?_ | refine blockQ_e ?_ | refine blockQ_o rfl ?_)
      all_goals simp [Try.f87, hp]
    · rw [z1] at hR
      repeat' (first | with_reducible refine OutOK.done ?_ | refine thenQ_n ?_ | refine thenQ_r ?_ | refine thenQ_e ?_ | refine AW.seq ?_ | refine AW.dreg tok mixed [3, 7]  [(0, false), (2, false), (6, false), (1, false), (3, true), (4, false), (5, false), (7, true), (8, false), (9, false)] (by decide +kernel) rfl (by simp [*]; rfl) ?_ | refine AW.reg tok (by simp [*]; rfl) ?_ | refine AW.ifB (by simp [*]; rfl) ?_ | refine IfG.t ?_ | refine IfG.f ?_ | (refine IfG.p (fun hg => ?_) (fun hg => ?_) <;> (try (have hg' := hg; simp at hg'))) | (refine IfG.n (fun hg => ?_) (fun hg => ?_) <;> (try (have hg' := hg; simp at hg'))) | (refine OutOK.gateP (fun hg => ?_) (fun hg => ?_) <;> (try (have hg' := hg; simp at hg'))) | (refine OutOK.gateN (fun hg => ?_) (fun hg => ?_) <;> (try (have hg' := hg; simp at hg'))) | (refine IfG.g (fun hg => ?_) (fun hg => ?_) <;> (try (have hg' := hg; simp at hg'))) | (refine OutOK.gate (fun hg => ?_) (fun hg => ?_) <;> (try (have hg' := hg; simp at hg'))) | (refine OutOK.callF [] (by simp [*]; rfl) (by simp [*]; rfl) (by simp [*]; rfl) hb64 (by apply c_spec_l1In <;> first | assumption | exact Hd.out (by assumption) | ((try (clear e0)); (try (clear e1)); (try (clear e2)); (try (clear e3)); (try (clear e4)); (try (clear e5)); (try (clear e6)); (try (clear e7)); (try (clear e8)); (try (clear e9)); (try (clear e10)); (try (clear e11)); omega)) ⟨by simp [*], by simp [*], by simp [*], by simp [*], by simp [*]⟩ (by simp [*]) (by simp [*]; rfl) ?_) | refine OutOK.run (by simp [*]; rfl) ?_ | refine AW.ret ?_ | refine AW.skip ?_ | refine AW.exit ?_ | refine fin_r ?_ | refine fin_n ?_ | refine AW.block ?_ | refine blockQ_n ?_ | refine blockQ_r ?_ | refine blockQ_e ?_ | refine blockQ_o rfl ?_)
      all_goals simp [Try.f87, hp]
  | true =>
    obtain ⟨r1, r2⟩ := inR_iff.1 hR
    obtain ⟨n, hn⟩ : ∃ n : Nat, a.tm = (n : Int) := ⟨a.tm.toNat, by omega⟩
    have hnl : n < b.ck.length := by omega
    rw [hn] at hR
    have hp : Hd (precE a b = decide (a.ct ≤ b.ck[n])) := by rw [Hd, precE, hk.out, hn, hR]; simp [ckAt, hnl]
    clear r1 r2
    obtain ⟨tm, ct, ck, it, tx⟩ := a
    simp only at hn hp hR hz'
    subst hn
    refine ACall.of (N := 36) tok Try.func87 rfl rfl rfl (by simp) ?_
    rcases hz' with hz' | ⟨z1, z2⟩
    · repeat' (first | with_reducible refine OutOK.done ?_ | refine thenQ_n ?_ | refine thenQ_r ?_ | refine thenQ_e ?_ | refine AW.seq ?_ | refine AW.dreg tok mixed [3, 7]  [(0, false), (2, false), (6, false), (1, false), (3, true), (4, false), (5, false), (7, true), (8, false), (9, false)] (by decide +kernel) rfl (by simp [*]; rfl) ?_ | refine AW.reg tok (by simp [*]; rfl) ?_ | refine AW.ifB (by simp [*]; rfl) ?_ | refine IfG.t ?_ | refine IfG.f ?_ | (refine IfG.p (fun hg => ?_) (fun hg => ?_) <;> (try (have hg' := hg; simp at hg'))) | (refine IfG.n (fun hg => ?_) (fun hg => ?_) <;> (try (have hg' := hg; simp at hg'))) | (refine OutOK.gateP (fun hg => ?_) (fun hg => ?_) <;> (try (have hg' := hg; simp at hg'))) | (refine OutOK.gateN (fun hg => ?_) (fun hg => ?_) <;> (try (have hg' := hg; simp at hg'))) | (refine IfG.g (fun hg => ?_) (fun hg => ?_) <;> (try (have hg' := hg; simp at hg'))) | (refine OutOK.gate (fun hg => ?_) (fun hg => ?_) <;> (try (have hg' := hg; simp at hg'))) | (refine OutOK.callF [] (by simp [*]; rfl) (by simp [*]; rfl) (by simp [*]; rfl) hb64 (by apply c_spec_l1In <;> first | assumption | exact Hd.out (by assumption) | ((try (clear e0)); (try (clear e1)); (try (clear e2)); (try (clear e3)); (try (clear e4)); (try (clear e5)); (try (clear e6)); (try (clear e7)); (try (clear e8)); (try (clear e9)); (try (clear e10)); (try (clear e11)); omega)) ⟨by simp [*], by simp [*], by simp [*], by simp [*], by simp [*]⟩ (by simp [*]) (by simp [*]; rfl) ?_) | refine OutOK.run (by simp [*]; rfl) ?_ | refine AW.ret ?_ | refine AW.skip ?_ | refine AW.exit ?_ | refine fin_r ?_ | refine fin_n ?_ | refine AW.block ?_ | refine blockQ_n ?_ | refine blockQ_r ?_ | refine blockQ_e ?_ | refine blockQ_o rfl ?_)
      all_goals simp [Try.f87, hp.out]
    · replace z1 := z1.symm
      repeat' (first | with_reducible refine OutOK.done ?_ | refine thenQ_n ?_ | refine thenQ_r ?_ | refine thenQ_e ?_ | refine AW.seq ?_ | refine AW.dreg tok mixed [3, 7]  [(0, false), (2, false), (6, false), (1, false), (3, true), (4, false), (5, false), (7, true), (8, false), (9, false)] (by decide +kernel) rfl (by simp [*]; rfl) ?_ | refine AW.reg tok (by simp [*]; rfl) ?_ | refine AW.ifB (by simp [*]; rfl) ?_ | refine IfG.t ?_ | refine IfG.f ?_ | (refine IfG.p (fun hg => ?_) (fun hg => ?_) <;> (try (have hg' := hg; simp at hg'))) | (refine IfG.n (fun hg => ?_) (fun hg => ?_) <;> (try (have hg' := hg; simp at hg'))) | (refine OutOK.gateP (fun hg => ?_) (fun hg => ?_) <;> (try (have hg' := hg; simp at hg'))) | (refine OutOK.gateN (fun hg => ?_) (fun hg => ?_) <;> (try (have hg' := hg; simp at hg'))) | (refine IfG.g (fun hg => ?_) (fun hg => ?_) <;> (try (have hg' := hg; simp at hg'))) | (refine OutOK.gate (fun hg => ?_) (fun hg => ?_) <;> (try (have hg' := hg; simp at hg'))) | (refine OutOK.callF [] (by simp [*]; rfl) (by simp [*]; rfl) (by simp [*]; rfl) hb64 (by apply c_spec_l1In <;> first | assumption | exact Hd.out (by assumption) | ((try (clear e0)); (try (clear e1)); (try (clear e2)); (try (clear e3)); (try (clear e4)); (try (clear e5)); (try (clear e6)); (try (clear e7)); (try (clear e8)); (try (clear e9)); (try (clear e10)); (try (clear e11)); omega)) ⟨by simp [*], by simp [*], by simp [*], by simp [*], by simp [*]⟩ (by simp [*]) (by simp [*]; rfl) ?_) | refine OutOK.run (by simp [*]; rfl) ?_ | refine AW.ret ?_ | refine AW.skip ?_ | refine AW.exit ?_ | refine fin_r ?_ | refine fin_n ?_ | refine AW.block ?_ | refine blockQ_n ?_ | refine blockQ_r ?_ | refine blockQ_e ?_ | refine blockQ_o rfl ?_)
      all_goals simp [Try.f87, hp.out]
def noGr (a b : List Int) : Bool := (List.range a.length).all fun i => decide (a[i]?.getD 0 ≤ b[i]?.getD 0)
theorem noGr_iff {a b : List Int} : noGr a b = true ↔ ∀ i < a.length, a[i]?.getD 0 ≤ b[i]?.getD 0 := by simp [noGr]
theorem c_impl_noGreater (a b : List Int) (h : a.length ≤ b.length) (hb : b.length ≤ 4611686018427387904) : ACall Try.prog 79 [.v (.sl true 1 (ints a)), .v (.sl true 1 (ints b))] [.x, .x] [boo (noGr a b)] := by
  refine ACall.of (N := 21) tok Try.func79 rfl rfl rfl (by simp) ?_
  repeat' (first | with_reducible refine OutOK.done ?_ | refine thenQ_n ?_ | refine thenQ_r ?_ | refine thenQ_e ?_ | refine AW.seq ?_ | refine AW.reg tok (by simp [*]; rfl) ?_ | refine AW.ifB (by simp [*]; rfl) ?_ | refine IfG.t ?_ | refine IfG.f ?_ | (refine IfG.p (fun hg => ?_) (fun hg => ?_) <;> (try (have hg' := hg; simp at hg'))) | (refine IfG.n (fun hg => ?_) (fun hg => ?_) <;> (try (have hg' := hg; simp at hg'))) | (refine OutOK.gateP (fun hg => ?_) (fun hg => ?_) <;> (try (have hg' := hg; simp at hg'))) | (refine OutOK.gateN (fun hg => ?_) (fun hg => ?_) <;> (try (have hg' := hg; simp at hg'))) | (refine IfG.g (fun hg => ?_) (fun hg => ?_) <;> (try (have hg' := hg; simp at hg'))) | (refine OutOK.gate (fun hg => ?_) (fun hg => ?_) <;> (try (have hg' := hg; simp at hg'))) | refine OutOK.run (by simp [*]; rfl) ?_ | refine AW.ret ?_ | refine AW.skip ?_ | refine AW.exit ?_ | refine fin_r ?_ | refine fin_n ?_ | refine AW.block ?_ | refine blockQ_n ?_ | refine blockQ_r ?_ | refine blockQ_e ?_ | refine blockQ_o rfl ?_)
  refine AW.loopL (α := Nat) (fun i => i ≤ a.length ∧ Hd (∀ j < i, a[j]?.getD 0 ≤ b[j]?.getD 0)) (fun i => [(1, .c (.sl true 1 (ints b))), (7, .c (.sl true 1 (ints a))), (8, .c (.sc (.int .i64 (a.length : Int)))), (9, .c (.sc (.int .i64 (i : Int))))]) (fun _ => []) (fun i => a.length - i) 0 ⟨Nat.zero_le _, fun j hj => by omega⟩ ⟨by simp, by simp, by simp⟩ ?_
  rintro i ⟨hi, hs⟩
  rcases Nat.lt_or_ge i a.length with hl | hl
  · have e1 : wrap64 ((i : Int) + 1) = ((i + 1 : Nat) : Int) := by rw [w64 (by omega) (by omega)]; omega
    have hlb : i < b.length := by omega
    by_cases hc : b[i] < a[i]
    · have hn : noGr a b = false := by
        rw [Bool.eq_false_iff]; intro ht
        have := noGr_iff.1 ht i hl
        simp [hl, hlb] at this; omega
      repeat' (first | with_reducible refine OutOK.done ?_ | refine thenQ_n ?_ | refine thenQ_r ?_ | refine thenQ_e ?_ | refine AW.seq ?_ | refine AW.reg tok (by simp [*]; rfl) ?_ | refine AW.ifB (by simp [*]; rfl) ?_ | refine IfG.t ?_ | refine IfG.f ?_ | (refine IfG.p (fun hg => ?_) (fun hg => ?_) <;> (try (have hg' := hg; simp at hg'))) | (refine IfG.n (fun hg => ?_) (fun hg => ?_) <;> (try (have hg' := hg; simp at hg'))) | (refine OutOK.gateP (fun hg => ?_) (fun hg => ?_) <;> (try (have hg' := hg; simp at hg'))) | (refine OutOK.gateN (fun hg => ?_) (fun hg => ?_) <;> (try (have hg' := hg; simp at hg'))) | (refine IfG.g (fun hg => ?_) (fun hg => ?_) <;> (try (have hg' := hg; simp at hg'))) | (refine OutOK.gate (fun hg => ?_) (fun hg => ?_) <;> (try (have hg' := hg; simp at hg'))) | refine OutOK.run (by simp [*]; rfl) ?_ | refine AW.ret ?_ | refine AW.skip ?_ | refine AW.exit ?_ | refine fin_r ?_ | refine fin_n ?_ | refine AW.block ?_ | refine blockQ_n ?_ | refine blockQ_r ?_ | refine blockQ_e ?_ | refine blockQ_o rfl ?_)
      simp [Try.f79, hn]
    · have hs2 : Hd (∀ j < i + 1, a[j]?.getD 0 ≤ b[j]?.getD 0) := by
        intro j hj
        rcases Nat.lt_succ_iff_lt_or_eq.1 hj with h1 | rfl
        · exact hs.out j h1
        · simp [hl, hlb]; omega
      repeat' (first | with_reducible refine OutOK.done ?_ | refine thenQ_n ?_ | refine thenQ_r ?_ | refine thenQ_e ?_ | refine AW.seq ?_ | refine AW.reg tok (by simp [*]; rfl) ?_ | refine AW.ifB (by simp [*]; rfl) ?_ | refine IfG.t ?_ | refine IfG.f ?_ | (refine IfG.p (fun hg => ?_) (fun hg => ?_) <;> (try (have hg' := hg; simp at hg'))) | (refine IfG.n (fun hg => ?_) (fun hg => ?_) <;> (try (have hg' := hg; simp at hg'))) | (refine OutOK.gateP (fun hg => ?_) (fun hg => ?_) <;> (try (have hg' := hg; simp at hg'))) | (refine OutOK.gateN (fun hg => ?_) (fun hg => ?_) <;> (try (have hg' := hg; simp at hg'))) | (refine IfG.g (fun hg => ?_) (fun hg => ?_) <;> (try (have hg' := hg; simp at hg'))) | (refine OutOK.gate (fun hg => ?_) (fun hg => ?_) <;> (try (have hg' := hg; simp at hg'))) | refine OutOK.run (by simp [*]; rfl) ?_ | refine AW.ret ?_ | refine AW.skip ?_ | refine AW.exit ?_ | refine fin_r ?_ | refine fin_n ?_ | refine AW.block ?_ | refine blockQ_n ?_ | refine blockQ_r ?_ | refine blockQ_e ?_ | refine blockQ_o rfl ?_)
      exact ⟨i + 1, ⟨hl, hs2⟩, ⟨by simp, by simp, by simp⟩, by ((try (clear e0)); (try (clear e1)); (try (clear e2)); (try (clear e3)); (try (clear e4)); (try (clear e5)); (try (clear e6)); (try (clear e7)); (try (clear e8)); (try (clear e9)); (try (clear e10)); (try (clear e11)); omega)⟩
  · have hii : i = a.length := by omega
    subst hii
    have hn : noGr a b = true := noGr_iff.2 hs.out
    repeat' (first | with_reducible refine OutOK.done ?_ | refine thenQ_n ?_ | refine thenQ_r ?_ | refine thenQ_e ?_ | refine AW.seq ?_ | refine AW.reg tok (by simp [*]; rfl) ?_ | refine AW.ifB (by simp [*]; rfl) ?_ | refine IfG.t ?_ | refine IfG.f ?_ | (refine IfG.p (fun hg => ?_) (fun hg => ?_) <;> (try (have hg' := hg; simp at hg'))) | (refine IfG.n (fun hg => ?_) (fun hg => ?_) <;> (try (have hg' := hg; simp at hg'))) | (refine OutOK.gateP (fun hg => ?_) (fun hg => ?_) <;> (try (have hg' := hg; simp at hg'))) | (refine OutOK.gateN (fun hg => ?_) (fun hg => ?_) <;> (try (have hg' := hg; simp at hg'))) | (refine IfG.g (fun hg => ?_) (fun hg => ?_) <;> (try (have hg' := hg; simp at hg'))) | (refine OutOK.gate (fun hg => ?_) (fun hg => ?_) <;> (try (have hg' := hg; simp at hg'))) | refine OutOK.run (by simp [*]; rfl) ?_ | refine AW.ret ?_ | refine AW.skip ?_ | refine AW.exit ?_ | refine fin_r ?_ | refine fin_n ?_ | refine AW.block ?_ | refine blockQ_n ?_ | refine blockQ_r ?_ | refine blockQ_e ?_ | refine blockQ_o rfl ?_)
    simp [Try.f79, hn]
def keyE (t n : Int) (e : Edt) : Bool := decide (e.tm = t) && decide (e.ct = n)
def fndE (l : List Edt) (t n : Int) : Int := idx (keyE t n) l
theorem c_spec_l22Find (l : List Edt) (t n : Int) (h : l.length ≤ 9223372036854775806) : ACall Try.prog 89 [.v (.sl true 5 (edts true l)), int t, int n] [.x, .x, .x] [int (fndE l t n)] := by
  refine ACall.of (N := 31) tok Try.func89 rfl rfl rfl (by simp) ?_
  repeat' (first | with_reducible refine OutOK.done ?_ | refine thenQ_n ?_ | refine thenQ_r ?_ | refine thenQ_e ?_ | refine AW.seq ?_ | refine AW.reg tok (by simp [*]; rfl) ?_ | refine AW.ifB (by simp [*]; rfl) ?_ | refine IfG.t ?_ | refine IfG.f ?_ | (refine IfG.p (fun hg => ?_) (fun hg => ?_) <;> (try (have hg' := hg; simp at hg'))) | (refine IfG.n (fun hg => ?_) (fun hg => ?_) <;> (try (have hg' := hg; simp at hg'))) | (refine OutOK.gateP (fun hg => ?_) (fun hg => ?_) <;> (try (have hg' := hg; simp at hg'))) | (refine OutOK.gateN (fun hg => ?_) (fun hg => ?_) <;> (try (have hg' := hg; simp at hg'))) | (refine IfG.g (fun hg => ?_) (fun hg => ?_) <;> (try (have hg' := hg; simp at hg'))) | (refine OutOK.gate (fun hg => ?_) (fun hg => ?_) <;> (try (have hg' := hg; simp at hg'))) | refine OutOK.run (by simp [*]; rfl) ?_ | refine AW.ret ?_ | refine AW.skip ?_ | refine AW.exit ?_ | refine fin_r ?_ | refine fin_n ?_ | refine AW.block ?_ | refine blockQ_n ?_ | refine blockQ_r ?_ | refine blockQ_e ?_ | refine blockQ_o rfl ?_)
  refine AW.loopL (fun i => i ≤ l.length ∧ Hd ((l.take i).any (keyE t n) = false)) (fun i => [(0, .c (.sl true 5 (edts true l))), (1, .c (.sc (.int .i64 t))), (2, .c (.sc (.int .i64 n))), (7, .c (.sc (.int .i64 (i : Int))))]) (fun _ => []) (fun i => l.length - i) 0 ⟨Nat.zero_le _, by simp [Hd]⟩ ⟨by simp, by simp, by simp⟩ ?_
  rintro i ⟨hi, hs⟩
  rcases Nat.lt_or_ge i l.length with hl | hl
  · have e1 : wrap64 ((i : Int) + 1) = ((i + 1 : Nat) : Int) := by rw [w64 (by omega) (by omega)]; omega
    by_cases h1 : l[i].tm = t
    · by_cases h2 : l[i].ct = n
      · have hf : fndE l t n = (i : Int) := idx_at hl hs.out (by simp [keyE, h1, h2])
        repeat' (first | with_reducible refine OutOK.done ?_ | refine thenQ_n ?_ | refine thenQ_r ?_ | refine thenQ_e ?_ | refine AW.seq ?_ | refine AW.reg tok (by simp [*]; rfl) ?_ | refine AW.ifB (by simp [*]; rfl) ?_ | refine IfG.t ?_ | refine IfG.f ?_ | (refine IfG.p (fun hg => ?_) (fun hg => ?_) <;> (try (have hg' := hg; simp at hg'))) | (refine IfG.n (fun hg => ?_) (fun hg => ?_) <;> (try (have hg' := hg; simp at hg'))) | (refine OutOK.gateP (fun hg => ?_) (fun hg => ?_) <;> (try (have hg' := hg; simp at hg'))) | (refine OutOK.gateN (fun hg => ?_) (fun hg => ?_) <;> (try (have hg' := hg; simp at hg'))) | (refine IfG.g (fun hg => ?_) (fun hg => ?_) <;> (try (have hg' := hg; simp at hg'))) | (refine OutOK.gate (fun hg => ?_) (fun hg => ?_) <;> (try (have hg' := hg; simp at hg'))) | refine OutOK.run (by simp [*]; rfl) ?_ | refine AW.ret ?_ | refine AW.skip ?_ | refine AW.exit ?_ | refine fin_r ?_ | refine fin_n ?_ | refine AW.block ?_ | refine blockQ_n ?_ | refine blockQ_r ?_ | refine blockQ_e ?_ | refine blockQ_o rfl ?_)
        simp [Try.f89, hf]
      · have hs2 : Hd ((l.take (i + 1)).any (keyE t n) = false) := any_more hl hs.out (by simp [keyE, h2])
        repeat' (first | with_reducible refine OutOK.done ?_ | refine thenQ_n ?_ | refine thenQ_r ?_ | refine thenQ_e ?_ | refine AW.seq ?_ | refine AW.reg tok (by simp [*]; rfl) ?_ | refine AW.ifB (by simp [*]; rfl) ?_ | refine IfG.t ?_ | refine IfG.f ?_ | (refine IfG.p (fun hg => ?_) (fun hg => ?_) <;> (try (have hg' := hg; simp at hg'))) | (refine IfG.n (fun hg => ?_) (fun hg => ?_) <;> (try (have hg' := hg; simp at hg'))) | (refine OutOK.gateP (fun hg => ?_) (fun hg => ?_) <;> (try (have hg' := hg; simp at hg'))) | (refine OutOK.gateN (fun hg => ?_) (fun hg => ?_) <;> (try (have hg' := hg; simp at hg'))) | (refine IfG.g (fun hg => ?_) (fun hg => ?_) <;> (try (have hg' := hg; simp at hg'))) | (refine OutOK.gate (fun hg => ?_) (fun hg => ?_) <;> (try (have hg' := hg; simp at hg'))) | refine OutOK.run (by simp [*]; rfl) ?_ | refine AW.ret ?_ | refine AW.skip ?_ | refine AW.exit ?_ | refine fin_r ?_ | refine fin_n ?_ | refine AW.block ?_ | refine blockQ_n ?_ | refine blockQ_r ?_ | refine blockQ_e ?_ | refine blockQ_o rfl ?_)
        exact ⟨i + 1, ⟨hl, hs2⟩, ⟨by simp, by simp, by simp⟩, by ((try (clear e0)); (try (clear e1)); (try (clear e2)); (try (clear e3)); (try (clear e4)); (try (clear e5)); (try (clear e6)); (try (clear e7)); (try (clear e8)); (try (clear e9)); (try (clear e10)); (try (clear e11)); omega)⟩
    · have hs2 : Hd ((l.take (i + 1)).any (keyE t n) = false) := any_more hl hs.out (by simp [keyE, h1])
      repeat' (first | with_reducible refine OutOK.done ?_ | refine thenQ_n ?_ | refine thenQ_r ?_ | refine thenQ_e ?_ | refine AW.seq ?_ | refine AW.reg tok (by simp [*]; rfl) ?_ | refine AW.ifB (by simp [*]; rfl) ?_ | refine IfG.t ?_ | refine IfG.f ?_ | (refine IfG.p (fun hg => ?_) (fun hg => ?_) <;> (try (have hg' := hg; simp at hg'))) | (refine IfG.n (fun hg => ?_) (fun hg => ?_) <;> (try (have hg' := hg; simp at hg'))) | (refine OutOK.gateP (fun hg => ?_) (fun hg => ?_) <;> (try (have hg' := hg; simp at hg'))) | (refine OutOK.gateN (fun hg => ?_) (fun hg => ?_) <;> (try (have hg' := hg; simp at hg'))) | (refine IfG.g (fun hg => ?_) (fun hg => ?_) <;> (try (have hg' := hg; simp at hg'))) | (refine OutOK.gate (fun hg => ?_) (fun hg => ?_) <;> (try (have hg' := hg; simp at hg'))) | refine OutOK.run (by simp [*]; rfl) ?_ | refine AW.ret ?_ | refine AW.skip ?_ | refine AW.exit ?_ | refine fin_r ?_ | refine fin_n ?_ | refine AW.block ?_ | refine blockQ_n ?_ | refine blockQ_r ?_ | refine blockQ_e ?_ | refine blockQ_o rfl ?_)
      exact ⟨i + 1, ⟨hl, hs2⟩, ⟨by simp, by simp, by simp⟩, by ((try (clear e0)); (try (clear e1)); (try (clear e2)); (try (clear e3)); (try (clear e4)); (try (clear e5)); (try (clear e6)); (try (clear e7)); (try (clear e8)); (try (clear e9)); (try (clear e10)); (try (clear e11)); omega)⟩
  · have hf : fndE l t n = -1 := idx_none (any_end hl hs.out)
    have hn : ¬ i < l.length := by omega
    repeat' (first | with_reducible refine OutOK.done ?_ | refine thenQ_n ?_ | refine thenQ_r ?_ | refine thenQ_e ?_ | refine AW.seq ?_ | refine AW.reg tok (by simp [*]; rfl) ?_ | refine AW.ifB (by simp [*]; rfl) ?_ | refine IfG.t ?_ | refine IfG.f ?_ | (refine IfG.p (fun hg => ?_) (fun hg => ?_) <;> (try (have hg' := hg; simp at hg'))) | (refine IfG.n (fun hg => ?_) (fun hg => ?_) <;> (try (have hg' := hg; simp at hg'))) | (refine OutOK.gateP (fun hg => ?_) (fun hg => ?_) <;> (try (have hg' := hg; simp at hg'))) | (refine OutOK.gateN (fun hg => ?_) (fun hg => ?_) <;> (try (have hg' := hg; simp at hg'))) | (refine IfG.g (fun hg => ?_) (fun hg => ?_) <;> (try (have hg' := hg; simp at hg'))) | (refine OutOK.gate (fun hg => ?_) (fun hg => ?_) <;> (try (have hg' := hg; simp at hg'))) | refine OutOK.run (by simp [*]; rfl) ?_ | refine AW.ret ?_ | refine AW.skip ?_ | refine AW.exit ?_ | refine fin_r ?_ | refine fin_n ?_ | refine AW.block ?_ | refine blockQ_n ?_ | refine blockQ_r ?_ | refine blockQ_e ?_ | refine blockQ_o rfl ?_)
    simp [Try.f89, hf]
def fldE (e : Edt) (n : Int) : Bool := inR 0 (n - 1) e.tm && decide ((e.ck.length : Int) = n) && decide (ckAt e.ck e.tm = e.ct) && nameOK e.it && textOK e.tx
theorem c_spec_l22Fields (e : Edt) (n : Int) (hW : EdtW e) (h1 : 1 ≤ n) (h3 : n ≤ 3) : ACall Try.prog 117 [edtD e, int n] [.x, .x] [boo (fldE e n)] := by
  obtain ⟨w1, w2, w3⟩ := hW
  have e1 : wrap64 (n - 1) = n - 1 := w64 (by omega) (by omega)
  cases hR : inR 0 (n - 1) e.tm with
  | false =>
    have hp : fldE e n = false := by simp [fldE, hR]
    refine ACall.of (N := 38) tok Try.func117 rfl rfl rfl (by simp) ?_
    repeat' (first | with_reducible refine OutOK.done ?_ | refine thenQ_n ?_ | refine thenQ_r ?_ | refine thenQ_e ?_ | refine AW.seq ?_ | refine AW.dreg tok mixed [16, 20]  [(0, false), (2, false), (3, false), (1, false), (4, false), (5, false), (6, false), (9, false), (7, false), (8, false), (10, false), (11, false), (12, false), (13, false), (15, false), (19, false), (14, false), (16, true), (17, false), (18, false), (20, true), (21, false), (22, false), (23, false), (24, false), (25, false), (26, false), (27, false), (28, false), (29, false), (30, false), (31, false), (32, false), (33, false)] (by decide +kernel) rfl (by simp [*]; rfl) ?_ | refine AW.reg tok (by simp [*]; rfl) ?_ | refine AW.ifB (by simp [*]; rfl) ?_ | refine IfG.t ?_ | refine IfG.f ?_ | (refine IfG.p (fun hg => ?_) (fun hg => ?_) <;> (try (have hg' := hg; simp at hg'))) | (refine IfG.n (fun hg => ?_) (fun hg => ?_) <;> (try (have hg' := hg; simp at hg'))) | (refine OutOK.gateP (fun hg => ?_) (fun hg => ?_) <;> (try (have hg' := hg; simp at hg'))) | (refine OutOK.gateN (fun hg => ?_) (fun hg => ?_) <;> (try (have hg' := hg; simp at hg'))) | (refine IfG.g (fun hg => ?_) (fun hg => ?_) <;> (try (have hg' := hg; simp at hg'))) | (refine OutOK.gate (fun hg => ?_) (fun hg => ?_) <;> (try (have hg' := hg; simp at hg'))) | (refine OutOK.callF [] (by simp [*]; rfl) (by simp [*]; rfl) (by simp [*]; rfl) hb64 (by apply c_spec_l1In <;> first | assumption | exact Hd.out (by assumption) | ((try (clear e0)); (try (clear e1)); (try (clear e2)); (try (clear e3)); (try (clear e4)); (try (clear e5)); (try (clear e6)); (try (clear e7)); (try (clear e8)); (try (clear e9)); (try (clear e10)); (try (clear e11)); omega)) ⟨by simp [*], by simp [*], by simp [*], by simp [*], by simp [*]⟩ (by simp [*]) (by simp [*]; rfl) ?_) | (refine OutOK.callF [] (by simp [*]; rfl) (by simp [*]; rfl) (by simp [*]; rfl) hb113 (by apply c_spec_l7Name <;> first | assumption | exact Hd.out (by assumption) | ((try (clear e0)); (try (clear e1)); (try (clear e2)); (try (clear e3)); (try (clear e4)); (try (clear e5)); (try (clear e6)); (try (clear e7)); (try (clear e8)); (try (clear e9)); (try (clear e10)); (try (clear e11)); omega)) ⟨by simp [*], by simp [*], by simp [*], by simp [*], by simp [*]⟩ (by simp [*]) (by simp [*]; rfl) ?_) | (refine OutOK.callF [] (by simp [*]; rfl) (by simp [*]; rfl) (by simp [*]; rfl) hb114 (by apply c_spec_l21Text <;> first | assumption | exact Hd.out (by assumption) | ((try (clear e0)); (try (clear e1)); (try (clear e2)); (try (clear e3)); (try (clear e4)); (try (clear e5)); (try (clear e6)); (try (clear e7)); (try (clear e8)); (try (clear e9)); (try (clear e10)); (try (clear e11)); omega)) ⟨by simp [*], by simp [*], by simp [*], by simp [*], by simp [*]⟩ (by simp [*]) (by simp [*]; rfl) ?_) | refine OutOK.run (by simp [*]; rfl) ?_ | refine AW.ret ?_ | refine AW.skip ?_ | refine AW.exit ?_ | refine fin_r ?_ | refine fin_n ?_ | refine AW.block ?_ | refine blockQ_n ?_ | refine blockQ_r ?_ | refine blockQ_e ?_ | refine blockQ_o rfl ?_)
    all_goals simp [Try.f117, hp]
  | true =>
    by_cases hl : (e.ck.length : Int) = n
    · obtain ⟨r1, r2⟩ := inR_iff.1 hR
      obtain ⟨k, hk⟩ : ∃ k : Nat, e.tm = (k : Int) := ⟨e.tm.toNat, by omega⟩
      have hkl : k < e.ck.length := by omega
      rw [hk] at hR
      have hp : Hd (fldE e n = (decide (e.ck[k] = e.ct) && nameOK e.it && textOK e.tx)) := by rw [Hd, fldE, hk, hR]; simp [ckAt, hkl, hl]
      subst hl
      clear r1 r2
      refine ACall.of (N := 38) tok Try.func117 rfl rfl rfl (by simp) ?_
      repeat' (first | with_reducible refine OutOK.done ?_ | refine thenQ_n ?_ | refine thenQ_r ?_ | refine thenQ_e ?_ | refine AW.seq ?_ | refine AW.dreg tok mixed [16, 20]  [(0, false), (2, false), (3, false), (1, false), (4, false), (5, false), (6, false), (9, false), (7, false), (8, false), (10, false), (11, false), (12, false), (13, false), (15, false), (19, false), (14, false), (16, true), (17, false), (18, false), (20, true), (21, false), (22, false), (23, false), (24, false), (25, false), (26, false), (27, false), (28, false), (29, false), (30, false), (31, false), (32, false), (33, false)] (by decide +kernel) rfl (by simp [*]; rfl) ?_ | refine AW.reg tok (by simp [*]; rfl) ?_ | refine AW.ifB (by simp [*]; rfl) ?_ | refine IfG.t ?_ | refine IfG.f ?_ | (refine IfG.p (fun hg => ?_) (fun hg => ?_) <;> (try (have hg' := hg; simp at hg'))) | (refine IfG.n (fun hg => ?_) (fun hg => ?_) <;> (try (have hg' := hg; simp at hg'))) | (refine OutOK.gateP (fun hg => ?_) (fun hg => ?_) <;> (try (have hg' := hg; simp at hg'))) | (refine OutOK.gateN (fun hg => ?_) (fun hg => ?_) <;> (try (have hg' := hg; simp at hg'))) | (refine IfG.g (fun hg => ?_) (fun hg => ?_) <;> (try (have hg' := hg; simp at hg'))) | (refine OutOK.gate (fun hg => ?_) (fun hg => ?_) <;> (try (have hg' := hg; simp at hg'))) | (refine OutOK.callF [] (by simp [*]; rfl) (by simp [*]; rfl) (by simp [*]; rfl) hb64 (by apply c_spec_l1In <;> first | assumption | exact Hd.out (by assumption) | ((try (clear e0)); (try (clear e1)); (try (clear e2)); (try (clear e3)); (try (clear e4)); (try (clear e5)); (try (clear e6)); (try (clear e7)); (try (clear e8)); (try (clear e9)); (try (clear e10)); (try (clear e11)); omega)) ⟨by simp [*], by simp [*], by simp [*], by simp [*], by simp [*]⟩ (by simp [*]) (by simp [*]; rfl) ?_) | (refine OutOK.callF [] (by simp [*]; rfl) (by simp [*]; rfl) (by simp [*]; rfl) hb113 (by apply c_spec_l7Name <;> first | assumption | exact Hd.out (by assumption) | ((try (clear e0)); (try (clear e1)); (try (clear e2)); (try (clear e3)); (try (clear e4)); (try (clear e5)); (try (clear e6)); (try (clear e7)); (try (clear e8)); (try (clear e9)); (try (clear e10)); (try (clear e11)); omega)) ⟨by simp [*], by simp [*], by simp [*], by simp [*], by simp [*]⟩ (by simp [*]) (by simp [*]; rfl) ?_) | (refine OutOK.callF [] (by simp [*]; rfl) (by simp [*]; rfl) (by simp [*]; rfl) hb114 (by apply c_spec_l21Text <;> first | assumption | exact Hd.out (by assumption) | ((try (clear e0)); (try (clear e1)); (try (clear e2)); (try (clear e3)); (try (clear e4)); (try (clear e5)); (try (clear e6)); (try (clear e7)); (try (clear e8)); (try (clear e9)); (try (clear e10)); (try (clear e11)); omega)) ⟨by simp [*], by simp [*], by simp [*], by simp [*], by simp [*]⟩ (by simp [*]) (by simp [*]; rfl) ?_) | refine OutOK.run (by simp [*]; rfl) ?_ | refine AW.ret ?_ | refine AW.skip ?_ | refine AW.exit ?_ | refine fin_r ?_ | refine fin_n ?_ | refine AW.block ?_ | refine blockQ_n ?_ | refine blockQ_r ?_ | refine blockQ_e ?_ | refine blockQ_o rfl ?_)
      all_goals simp [Try.f117, hp.out, *]
    · have hp : fldE e n = false := by simp [fldE, hl]
      refine ACall.of (N := 38) tok Try.func117 rfl rfl rfl (by simp) ?_
      repeat' (first | with_reducible refine OutOK.done ?_ | refine thenQ_n ?_ | refine thenQ_r ?_ | refine thenQ_e ?_ | refine AW.seq ?_ | refine AW.dreg tok mixed [16, 20]  [(0, false), (2, false), (3, false), (1, false), (4, false), (5, false), (6, false), (9, false), (7, false), (8, false), (10, false), (11, false), (12, false), (13, false), (15, false), (19, false), (14, false), (16, true), (17, false), (18, false), (20, true), (21, false), (22, false), (23, false), (24, false), (25, false), (26, false), (27, false), (28, false), (29, false), (30, false), (31, false), (32, false), (33, false)] (by decide +kernel) rfl (by simp [*]; rfl) ?_ | refine AW.reg tok (by simp [*]; rfl) ?_ | refine AW.ifB (by simp [*]; rfl) ?_ | refine IfG.t ?_ | refine IfG.f ?_ | (refine IfG.p (fun hg => ?_) (fun hg => ?_) <;> (try (have hg' := hg; simp at hg'))) | (refine IfG.n (fun hg => ?_) (fun hg => ?_) <;> (try (have hg' := hg; simp at hg'))) | (refine OutOK.gateP (fun hg => ?_) (fun hg => ?_) <;> (try (have hg' := hg; simp at hg'))) | (refine OutOK.gateN (fun hg => ?_) (fun hg => ?_) <;> (try (have hg' := hg; simp at hg'))) | (refine IfG.g (fun hg => ?_) (fun hg => ?_) <;> (try (have hg' := hg; simp at hg'))) | (refine OutOK.gate (fun hg => ?_) (fun hg => ?_) <;> (try (have hg' := hg; simp at hg'))) | (refine OutOK.callF [] (by simp [*]; rfl) (by simp [*]; rfl) (by simp [*]; rfl) hb64 (by apply c_spec_l1In <;> first | assumption | exact Hd.out (by assumption) | ((try (clear e0)); (try (clear e1)); (try (clear e2)); (try (clear e3)); (try (clear e4)); (try (clear e5)); (try (clear e6)); (try (clear e7)); (try (clear e8)); (try (clear e9)); (try (clear e10)); (try (clear e11)); omega)) ⟨by simp [*], by simp [*], by simp [*], by simp [*], by simp [*]⟩ (by simp [*]) (by simp [*]; rfl) ?_) | (refine OutOK.callF [] (by simp [*]; rfl) (by simp [*]; rfl) (by simp [*]; rfl) hb113 (by apply c_spec_l7Name <;> first | assumption | exact Hd.out (by assumption) | ((try (clear e0)); (try (clear e1)); (try (clear e2)); (try (clear e3)); (try (clear e4)); (try (clear e5)); (try (clear e6)); (try (clear e7)); (try (clear e8)); (try (clear e9)); (try (clear e10)); (try (clear e11)); omega)) ⟨by simp [*], by simp [*], by simp [*], by simp [*], by simp [*]⟩ (by simp [*]) (by simp [*]; rfl) ?_) | (refine OutOK.callF [] (by simp [*]; rfl) (by simp [*]; rfl) (by simp [*]; rfl) hb114 (by apply c_spec_l21Text <;> first | assumption | exact Hd.out (by assumption) | ((try (clear e0)); (try (clear e1)); (try (clear e2)); (try (clear e3)); (try (clear e4)); (try (clear e5)); (try (clear e6)); (try (clear e7)); (try (clear e8)); (try (clear e9)); (try (clear e10)); (try (clear e11)); omega)) ⟨by simp [*], by simp [*], by simp [*], by simp [*], by simp [*]⟩ (by simp [*]) (by simp [*]; rfl) ?_) | refine OutOK.run (by simp [*]; rfl) ?_ | refine AW.ret ?_ | refine AW.skip ?_ | refine AW.exit ?_ | refine fin_r ?_ | refine fin_n ?_ | refine AW.block ?_ | refine blockQ_n ?_ | refine blockQ_r ?_ | refine blockQ_e ?_ | refine blockQ_o rfl ?_)
      all_goals simp [Try.f117, hp]
end Go.Proofs.Ytbofobjofngoeaa.EngS


set_option linter.unusedSimpArgs false
set_option linter.unusedVariables false
namespace Go.Eng
open Go.RowKit
def cStep (c : Code) (n : Nat) : Code :=
  match c, n with
  | .seq a _, 1 => a
  | .seq _ b, 2 => b
  | .cond _ a _, 3 => a
  | .cond _ _ b, 4 => b
  | .block _ b, 5 => b
  | .scope b, 6 => b
  | .loop b, 7 => b
  | c, _ => c
def cAt (f : Func) (l : List Nat) : Code := l.foldl cStep (f.body.getD .skip)
end Go.Eng

set_option linter.unusedSimpArgs false
set_option linter.unusedVariables false
set_option maxHeartbeats 4000000
set_option maxRecDepth 100000
namespace Go.Proofs.Ytbofobjofngoeaa.EngS
open Go Go.Proofs Go.Eng Go.RowKit
attribute [local irreducible] Go.RowKit.wrap64
theorem idx_cases {α : Type} (p : α → Bool) (xs : List α) : idx p xs < 0 ∨ ∃ k : Nat, idx p xs = (k : Int) ∧ k < xs.length := by
  unfold idx
  cases h : xs.findIdx? p with
  | none => left; simp
  | some k =>
    right
    refine ⟨k, by simp, ?_⟩
    rw [List.findIdx?_eq_some_iff_getElem] at h
    exact h.1
end Go.Proofs.Ytbofobjofngoeaa.EngS


set_option linter.unusedSimpArgs false
set_option linter.unusedVariables false
set_option maxHeartbeats 4000000
set_option maxRecDepth 100000
namespace Go.Proofs.Ytbofobjofngoeaa.EngS
open Go Go.Proofs Go.Eng Go.RowKit
attribute [local irreducible] Go.RowKit.wrap64
def KnB (l : List Edt) (e : Edt) (t m : Nat) : Prop := ∃ k, ∃ hk : k < l.length, fndE l t m = (k : Int) ∧ ¬ ((¬ (t : Int) = e.tm ∨ ¬ (m : Int) = e.ct) ∧ e.ct ≤ ckAt l[k].ck e.tm) ∧ noGr l[k].ck e.ck = true
def KnT (l : List Edt) (e : Edt) (t : Nat) : Prop := inR 0 l.length (ckAt e.ck t) = true ∧ ∀ m : Nat, 1 ≤ m → (m : Int) ≤ ckAt e.ck t → KnB l e t m
def Kn (l : List Edt) (e : Edt) : Prop := ∀ t, t < e.ck.length → KnT l e t
def KuQ (l : List Edt) (TT : Nat) (ct : Int) (ck : List Int) (it tx : ByteArray) (t m k u : Nat) (e : Exit) (st : St) : Prop :=
  (e = .ret ∧ ck[u]?.getD 0 < ((l[k]?.getD default).ck)[u]?.getD 0 ∧ FinP EngS.T Try.f118.results.toList [.v (.sl true 5 (edts true l)), edtD ⟨(TT : Nat), ct, ck, it, tx⟩] [.x, .x] [boo false] st) ∨
  (e = .normal ∧ ¬ ck[u]?.getD 0 < ((l[k]?.getD default).ck)[u]?.getD 0 ∧ LessL st [(0, .c (.sl true 5 (edts true l))), (3, .pt 3000 [] 0), (5, .c (.sc (.int .i64 (t : Int)))), (6, .c (.sc (.int .i64 (m : Int)))), (7, .c (.sc (.int .i64 (k : Int)))), (8, .c (.sc (.int .i64 ((u + 1 : Nat) : Int))))] [(3000, .bx (edtC true ⟨(TT : Nat), ct, ck, it, tx⟩))])
theorem w_knU (l : List Edt) (TT : Nat) (ct : Int) (ck : List Int) (it tx : ByteArray) (t m k u : Nat) (hk : k < l.length) (hl : l.length ≤ 24) (hu : u < ck.length) (hck : ck.length ≤ 3) (hkk : l[k].ck.length = ck.length) : AW Try.prog 85 (cAt Try.f118 [2, 1, 2, 5, 7, 2, 1, 5, 2, 2, 5, 7, 2, 1, 5, 2, 2, 2, 2, 5, 7]) (mk [(0, .c (.sl true 5 (edts true l))), (3, .pt 3000 [] 0), (5, .c (.sc (.int .i64 (t : Int)))), (6, .c (.sc (.int .i64 (m : Int)))), (7, .c (.sc (.int .i64 (k : Int)))), (8, .c (.sc (.int .i64 (u : Int))))] [(3000, .bx (edtC true ⟨(TT : Nat), ct, ck, it, tx⟩))]) (KuQ l TT ct ck it tx t m k u) := by
  have e3 : wrap64 ((u : Int) + 1) = ((u + 1 : Nat) : Int) := by rw [w64 (by omega) (by omega)]; omega
  have huk : u < l[k].ck.length := by omega
  have h1 : Hd (ck[u]?.getD 0 = ck[u]) := by simp [Hd, hu]
  have h2 : Hd (((l[k]?.getD default).ck)[u]?.getD 0 = l[k].ck[u]) := by simp [Hd, hk, huk]
  by_cases hg0 : ck[u] < l[k].ck[u]
  · repeat' (first | with_reducible refine OutOK.done ?_ | refine thenQ_n ?_ | refine thenQ_r ?_ | refine thenQ_e ?_ | refine AW.seq ?_ | refine AW.dreg tok mixed [17, 21]  [(0, false), (1, false), (2, false), (3, false), (4, false), (5, false), (6, false), (7, false), (8, false), (9, false), (10, false), (11, false), (12, false), (13, false), (14, false), (16, false), (20, false), (15, false), (17, true), (18, false), (19, false), (21, true), (22, false), (23, false)] (by decide +kernel) rfl (by simp [*]; rfl) ?_ | refine AW.dreg tok mixed [9, 11, 12]  [(0, false), (1, false), (2, false), (3, false), (5, false), (8, false), (10, false), (4, false), (6, false), (7, false), (9, true), (11, true), (12, true), (13, false)] (by decide +kernel) rfl (by simp [*]; rfl) ?_ | refine AW.reg tok (by simp [*]; rfl) ?_ | refine AW.ifB (by simp [*]; rfl) ?_ | refine IfG.t ?_ | refine IfG.f ?_ | (refine IfG.p (fun hg => ?_) (fun hg => ?_) <;> (try (have hg' := hg; simp at hg'))) | (refine IfG.n (fun hg => ?_) (fun hg => ?_) <;> (try (have hg' := hg; simp at hg'))) | (refine OutOK.gateP (fun hg => ?_) (fun hg => ?_) <;> (try (have hg' := hg; simp at hg'))) | (refine OutOK.gateN (fun hg => ?_) (fun hg => ?_) <;> (try (have hg' := hg; simp at hg'))) | (refine IfG.g (fun hg => ?_) (fun hg => ?_) <;> (try (have hg' := hg; simp at hg'))) | (refine OutOK.gate (fun hg => ?_) (fun hg => ?_) <;> (try (have hg' := hg; simp at hg'))) | refine OutOK.run (by simp [*]; rfl) ?_ | refine AW.ret ?_ | refine AW.skip ?_ | refine AW.exit ?_ | refine fin_r ?_ | refine fin_n ?_ | refine AW.block ?_ | refine blockQ_n ?_ | refine blockQ_r ?_ | refine blockQ_e ?_ | refine blockQ_o rfl ?_)
    exact .inl ⟨rfl, by rw [h1.out, h2.out]; exact hg0, by simp [Try.f118]⟩
  · repeat' (first | with_reducible refine OutOK.done ?_ | refine thenQ_n ?_ | refine thenQ_r ?_ | refine thenQ_e ?_ | refine AW.seq ?_ | refine AW.dreg tok mixed [17, 21]  [(0, false), (1, false), (2, false), (3, false), (4, false), (5, false), (6, false), (7, false), (8, false), (9, false), (10, false), (11, false), (12, false), (13, false), (14, false), (16, false), (20, false), (15, false), (17, true), (18, false), (19, false), (21, true), (22, false), (23, false)] (by decide +kernel) rfl (by simp [*]; rfl) ?_ | refine AW.dreg tok mixed [9, 11, 12]  [(0, false), (1, false), (2, false), (3, false), (5, false), (8, false), (10, false), (4, false), (6, false), (7, false), (9, true), (11, true), (12, true), (13, false)] (by decide +kernel) rfl (by simp [*]; rfl) ?_ | refine AW.reg tok (by simp [*]; rfl) ?_ | refine AW.ifB (by simp [*]; rfl) ?_ | refine IfG.t ?_ | refine IfG.f ?_ | (refine IfG.p (fun hg => ?_) (fun hg => ?_) <;> (try (have hg' := hg; simp at hg'))) | (refine IfG.n (fun hg => ?_) (fun hg => ?_) <;> (try (have hg' := hg; simp at hg'))) | (refine OutOK.gateP (fun hg => ?_) (fun hg => ?_) <;> (try (have hg' := hg; simp at hg'))) | (refine OutOK.gateN (fun hg => ?_) (fun hg => ?_) <;> (try (have hg' := hg; simp at hg'))) | (refine IfG.g (fun hg => ?_) (fun hg => ?_) <;> (try (have hg' := hg; simp at hg'))) | (refine OutOK.gate (fun hg => ?_) (fun hg => ?_) <;> (try (have hg' := hg; simp at hg'))) | refine OutOK.run (by simp [*]; rfl) ?_ | refine AW.ret ?_ | refine AW.skip ?_ | refine AW.exit ?_ | refine fin_r ?_ | refine fin_n ?_ | refine AW.block ?_ | refine blockQ_n ?_ | refine blockQ_r ?_ | refine blockQ_e ?_ | refine blockQ_o rfl ?_)
    exact .inr ⟨rfl, by rw [h1.out, h2.out]; exact hg0, by simp, by simp, by simp⟩
def KmQ (l : List Edt) (TT : Nat) (ct : Int) (ck : List Int) (it tx : ByteArray) (t m : Nat) (e : Exit) (st : St) : Prop :=
  (e = .ret ∧ ¬ KnB l ⟨(TT : Nat), ct, ck, it, tx⟩ t m ∧ FinP EngS.T Try.f118.results.toList [.v (.sl true 5 (edts true l)), edtD ⟨(TT : Nat), ct, ck, it, tx⟩] [.x, .x] [boo false] st) ∨
  (e = .normal ∧ KnB l ⟨(TT : Nat), ct, ck, it, tx⟩ t m ∧ LessL st [(0, .c (.sl true 5 (edts true l))), (3, .pt 3000 [] 0), (5, .c (.sc (.int .i64 (t : Int)))), (6, .c (.sc (.int .i64 ((m + 1 : Nat) : Int))))] [(3000, .bx (edtC true ⟨(TT : Nat), ct, ck, it, tx⟩))])
theorem w_knM0 (l : List Edt) (TT : Nat) (ct : Int) (ck : List Int) (it tx : ByteArray) (t m : Nat) (hl : l.length ≤ 24) (hck : ck.length ≤ 3) (ht : t < ck.length) (hTl : TT < ck.length) (hcl : ∀ k (hk : k < l.length), l[k].ck.length = ck.length) (m1 : 1 ≤ m) (m2 : m ≤ 24) (hml : (m : Int) ≤ ck[t]) (hf : fndE l t m < 0) : AW Try.prog 85 (cAt Try.f118 [2, 1, 2, 5, 7, 2, 1, 5, 2, 2, 5, 7]) (mk [(0, .c (.sl true 5 (edts true l))), (3, .pt 3000 [] 0), (5, .c (.sc (.int .i64 (t : Int)))), (6, .c (.sc (.int .i64 (m : Int))))] [(3000, .bx (edtC true ⟨(TT : Nat), ct, ck, it, tx⟩))]) (KmQ l TT ct ck it tx t m) := by
  have cf := c_spec_l22Find l t m (by omega)
  have hb : ¬ KnB l ⟨(TT : Nat), ct, ck, it, tx⟩ t m := fun hk => by obtain ⟨k, _, hk2, _⟩ := hk; omega
  replace hb : Hd _ := hb
  generalize fndE l t m = F at *
  clear hcl
  repeat' (first | with_reducible refine OutOK.done ?_ | refine thenQ_n ?_ | refine thenQ_r ?_ | refine thenQ_e ?_ | refine AW.seq ?_ | refine AW.dreg tok mixed [17, 21]  [(0, false), (1, false), (2, false), (3, false), (4, false), (5, false), (6, false), (7, false), (8, false), (9, false), (10, false), (11, false), (12, false), (13, false), (14, false), (16, false), (20, false), (15, false), (17, true), (18, false), (19, false), (21, true), (22, false), (23, false)] (by decide +kernel) rfl (by simp [*]; rfl) ?_ | refine AW.dreg tok mixed [9, 11, 12]  [(0, false), (1, false), (2, false), (3, false), (5, false), (8, false), (10, false), (4, false), (6, false), (7, false), (9, true), (11, true), (12, true), (13, false)] (by decide +kernel) rfl (by simp [*]; rfl) ?_ | refine AW.reg tok (by simp [*]; rfl) ?_ | refine AW.ifB (by simp [*]; rfl) ?_ | refine IfG.t ?_ | refine IfG.f ?_ | (refine IfG.p (fun hg => ?_) (fun hg => ?_) <;> (try (have hg' := hg; simp at hg'))) | (refine IfG.n (fun hg => ?_) (fun hg => ?_) <;> (try (have hg' := hg; simp at hg'))) | (refine OutOK.gateP (fun hg => ?_) (fun hg => ?_) <;> (try (have hg' := hg; simp at hg'))) | (refine OutOK.gateN (fun hg => ?_) (fun hg => ?_) <;> (try (have hg' := hg; simp at hg'))) | (refine IfG.g (fun hg => ?_) (fun hg => ?_) <;> (try (have hg' := hg; simp at hg'))) | (refine OutOK.gate (fun hg => ?_) (fun hg => ?_) <;> (try (have hg' := hg; simp at hg'))) | (refine OutOK.callF [] (by simp [*]; rfl) (by simp [*]; rfl) (by simp [*]; rfl) hb89 (by apply cf <;> first | assumption | exact Hd.out (by assumption) | ((try (clear e0)); (try (clear e1)); (try (clear e2)); (try (clear e3)); (try (clear e4)); (try (clear e5)); (try (clear e6)); (try (clear e7)); (try (clear e8)); (try (clear e9)); (try (clear e10)); (try (clear e11)); omega)) ⟨by simp [*], by simp [*], by simp [*], by simp [*], by simp [*]⟩ (by simp [*]) (by simp [*]; rfl) ?_) | refine OutOK.run (by simp [*]; rfl) ?_ | refine AW.ret ?_ | refine AW.skip ?_ | refine AW.exit ?_ | refine fin_r ?_ | refine fin_n ?_ | refine AW.block ?_ | refine blockQ_n ?_ | refine blockQ_r ?_ | refine blockQ_e ?_ | refine blockQ_o rfl ?_)
  exact .inl ⟨rfl, hb.out, by simp [Try.f118]⟩
theorem w_knM1 (l : List Edt) (TT : Nat) (ct : Int) (ck : List Int) (it tx : ByteArray) (t m : Nat) (hl : l.length ≤ 24) (hck : ck.length ≤ 3) (ht : t < ck.length) (hTl : TT < ck.length) (hcl : ∀ k (hk : k < l.length), l[k].ck.length = ck.length) (m1 : 1 ≤ m) (m2 : m ≤ 24) (hml : (m : Int) ≤ ck[t]) (k : Nat) (hkl : k < l.length) (hf : fndE l t m = (k : Int)) (b1 : ¬ t = TT) (b2 : ct ≤ l[k].ck[TT]?.getD 0) : AW Try.prog 85 (cAt Try.f118 [2, 1, 2, 5, 7, 2, 1, 5, 2, 2, 5, 7]) (mk [(0, .c (.sl true 5 (edts true l))), (3, .pt 3000 [] 0), (5, .c (.sc (.int .i64 (t : Int)))), (6, .c (.sc (.int .i64 (m : Int))))] [(3000, .bx (edtC true ⟨(TT : Nat), ct, ck, it, tx⟩))]) (KmQ l TT ct ck it tx t m) := by
  have cf := c_spec_l22Find l t m (by omega)
  rw [hf] at cf
  have hf' : Hd _ := hf
  clear hf
  have hkk := hcl k hkl
  have hTk : TT < l[k].ck.length := by omega
  have hcT : Hd (ckAt l[k].ck (TT : Int) = l[k].ck[TT]) := by simp [Hd, ckAt, hTk]
  have hkn : ¬ (k : Int) < 0 := by omega
  have hge : l[k].ck[TT]?.getD 0 = l[k].ck[TT] := by simp [hTk]
  have hTT : (t : Int) = TT ↔ t = TT := by omega
  have e2 : wrap64 ((m : Int) + 1) = ((m + 1 : Nat) : Int) := by rw [w64 (by omega) (by omega)]; omega
  clear hcl
  have hb : ¬ KnB l ⟨(TT : Nat), ct, ck, it, tx⟩ t m := fun hk => by
    obtain ⟨k', hk', hk2, hk3, _⟩ := hk
    rw [hf'.out] at hk2
    have : k' = k := by omega
    subst this
    simp only [hcT.out] at hk3
    exact hk3 ⟨by omega, by rw [← hge]; exact b2⟩
  replace hb : Hd _ := hb
  rw [hge] at b2
  clear hTT hge
  have hTT : ¬ (t : Int) = TT := by omega
  repeat' (first | with_reducible refine OutOK.done ?_ | refine thenQ_n ?_ | refine thenQ_r ?_ | refine thenQ_e ?_ | refine AW.seq ?_ | refine AW.dreg tok mixed [17, 21]  [(0, false), (1, false), (2, false), (3, false), (4, false), (5, false), (6, false), (7, false), (8, false), (9, false), (10, false), (11, false), (12, false), (13, false), (14, false), (16, false), (20, false), (15, false), (17, true), (18, false), (19, false), (21, true), (22, false), (23, false)] (by decide +kernel) rfl (by simp [*]; rfl) ?_ | refine AW.dreg tok mixed [9, 11, 12]  [(0, false), (1, false), (2, false), (3, false), (5, false), (8, false), (10, false), (4, false), (6, false), (7, false), (9, true), (11, true), (12, true), (13, false)] (by decide +kernel) rfl (by simp [*]; rfl) ?_ | refine AW.reg tok (by simp [*]; rfl) ?_ | refine AW.ifB (by simp [*]; rfl) ?_ | refine IfG.t ?_ | refine IfG.f ?_ | (refine IfG.p (fun hg => ?_) (fun hg => ?_) <;> (try (have hg' := hg; simp at hg'))) | (refine IfG.n (fun hg => ?_) (fun hg => ?_) <;> (try (have hg' := hg; simp at hg'))) | (refine OutOK.gateP (fun hg => ?_) (fun hg => ?_) <;> (try (have hg' := hg; simp at hg'))) | (refine OutOK.gateN (fun hg => ?_) (fun hg => ?_) <;> (try (have hg' := hg; simp at hg'))) | (refine IfG.g (fun hg => ?_) (fun hg => ?_) <;> (try (have hg' := hg; simp at hg'))) | (refine OutOK.gate (fun hg => ?_) (fun hg => ?_) <;> (try (have hg' := hg; simp at hg'))) | (refine OutOK.callF [] (by simp [*]; rfl) (by simp [*]; rfl) (by simp [*]; rfl) hb89 (by apply cf <;> first | assumption | exact Hd.out (by assumption) | ((try (clear e0)); (try (clear e1)); (try (clear e2)); (try (clear e3)); (try (clear e4)); (try (clear e5)); (try (clear e6)); (try (clear e7)); (try (clear e8)); (try (clear e9)); (try (clear e10)); (try (clear e11)); omega)) ⟨by simp [*], by simp [*], by simp [*], by simp [*], by simp [*]⟩ (by simp [*]) (by simp [*]; rfl) ?_) | refine OutOK.run (by simp [*]; rfl) ?_ | refine AW.ret ?_ | refine AW.skip ?_ | refine AW.exit ?_ | refine fin_r ?_ | refine fin_n ?_ | refine AW.block ?_ | refine blockQ_n ?_ | refine blockQ_r ?_ | refine blockQ_e ?_ | refine blockQ_o rfl ?_)
  exact .inl ⟨rfl, hb.out, by simp [Try.f118]⟩
theorem w_knM2 (l : List Edt) (TT : Nat) (ct : Int) (ck : List Int) (it tx : ByteArray) (t m : Nat) (hl : l.length ≤ 24) (hck : ck.length ≤ 3) (ht : t < ck.length) (hTl : TT < ck.length) (hcl : ∀ k (hk : k < l.length), l[k].ck.length = ck.length) (m1 : 1 ≤ m) (m2 : m ≤ 24) (hml : (m : Int) ≤ ck[t]) (k : Nat) (hkl : k < l.length) (hf : fndE l t m = (k : Int)) (b1 : t = TT ∧ ¬ (m : Int) = ct) (b2 : ct ≤ l[k].ck[TT]?.getD 0) : AW Try.prog 85 (cAt Try.f118 [2, 1, 2, 5, 7, 2, 1, 5, 2, 2, 5, 7]) (mk [(0, .c (.sl true 5 (edts true l))), (3, .pt 3000 [] 0), (5, .c (.sc (.int .i64 (t : Int)))), (6, .c (.sc (.int .i64 (m : Int))))] [(3000, .bx (edtC true ⟨(TT : Nat), ct, ck, it, tx⟩))]) (KmQ l TT ct ck it tx t m) := by
  have cf := c_spec_l22Find l t m (by omega)
  rw [hf] at cf
  have hf' : Hd _ := hf
  clear hf
  have hkk := hcl k hkl
  have hTk : TT < l[k].ck.length := by omega
  have hcT : Hd (ckAt l[k].ck (TT : Int) = l[k].ck[TT]) := by simp [Hd, ckAt, hTk]
  have hkn : ¬ (k : Int) < 0 := by omega
  have hge : l[k].ck[TT]?.getD 0 = l[k].ck[TT] := by simp [hTk]
  have hTT : (t : Int) = TT ↔ t = TT := by omega
  have e2 : wrap64 ((m : Int) + 1) = ((m + 1 : Nat) : Int) := by rw [w64 (by omega) (by omega)]; omega
  clear hcl
  have hb : ¬ KnB l ⟨(TT : Nat), ct, ck, it, tx⟩ t m := fun hk => by
    obtain ⟨k', hk', hk2, hk3, _⟩ := hk
    rw [hf'.out] at hk2
    have : k' = k := by omega
    subst this
    simp only [hcT.out] at hk3
    exact hk3 ⟨by omega, by rw [← hge]; exact b2⟩
  replace hb : Hd _ := hb
  rw [hge] at b2
  clear hge
  obtain ⟨b1, b3⟩ := b1
  subst b1
  repeat' (first | with_reducible refine OutOK.done ?_ | refine thenQ_n ?_ | refine thenQ_r ?_ | refine thenQ_e ?_ | refine AW.seq ?_ | refine AW.dreg tok mixed [17, 21]  [(0, false), (1, false), (2, false), (3, false), (4, false), (5, false), (6, false), (7, false), (8, false), (9, false), (10, false), (11, false), (12, false), (13, false), (14, false), (16, false), (20, false), (15, false), (17, true), (18, false), (19, false), (21, true), (22, false), (23, false)] (by decide +kernel) rfl (by simp [*]; rfl) ?_ | refine AW.dreg tok mixed [9, 11, 12]  [(0, false), (1, false), (2, false), (3, false), (5, false), (8, false), (10, false), (4, false), (6, false), (7, false), (9, true), (11, true), (12, true), (13, false)] (by decide +kernel) rfl (by simp [*]; rfl) ?_ | refine AW.reg tok (by simp [*]; rfl) ?_ | refine AW.ifB (by simp [*]; rfl) ?_ | refine IfG.t ?_ | refine IfG.f ?_ | (refine IfG.p (fun hg => ?_) (fun hg => ?_) <;> (try (have hg' := hg; simp at hg'))) | (refine IfG.n (fun hg => ?_) (fun hg => ?_) <;> (try (have hg' := hg; simp at hg'))) | (refine OutOK.gateP (fun hg => ?_) (fun hg => ?_) <;> (try (have hg' := hg; simp at hg'))) | (refine OutOK.gateN (fun hg => ?_) (fun hg => ?_) <;> (try (have hg' := hg; simp at hg'))) | (refine IfG.g (fun hg => ?_) (fun hg => ?_) <;> (try (have hg' := hg; simp at hg'))) | (refine OutOK.gate (fun hg => ?_) (fun hg => ?_) <;> (try (have hg' := hg; simp at hg'))) | (refine OutOK.callF [] (by simp [*]; rfl) (by simp [*]; rfl) (by simp [*]; rfl) hb89 (by apply cf <;> first | assumption | exact Hd.out (by assumption) | ((try (clear e0)); (try (clear e1)); (try (clear e2)); (try (clear e3)); (try (clear e4)); (try (clear e5)); (try (clear e6)); (try (clear e7)); (try (clear e8)); (try (clear e9)); (try (clear e10)); (try (clear e11)); omega)) ⟨by simp [*], by simp [*], by simp [*], by simp [*], by simp [*]⟩ (by simp [*]) (by simp [*]; rfl) ?_) | refine OutOK.run (by simp [*]; rfl) ?_ | refine AW.ret ?_ | refine AW.skip ?_ | refine AW.exit ?_ | refine fin_r ?_ | refine fin_n ?_ | refine AW.block ?_ | refine blockQ_n ?_ | refine blockQ_r ?_ | refine blockQ_e ?_ | refine blockQ_o rfl ?_)
  exact .inl ⟨rfl, hb.out, by simp [Try.f118]⟩
theorem w_knM3 (l : List Edt) (TT : Nat) (ct : Int) (ck : List Int) (it tx : ByteArray) (t m : Nat) (hl : l.length ≤ 24) (hck : ck.length ≤ 3) (ht : t < ck.length) (hTl : TT < ck.length) (hcl : ∀ k (hk : k < l.length), l[k].ck.length = ck.length) (m1 : 1 ≤ m) (m2 : m ≤ 24) (hml : (m : Int) ≤ ck[t]) (k : Nat) (hkl : k < l.length) (hf : fndE l t m = (k : Int)) (b1 : t = TT ∧ (m : Int) = ct) : AW Try.prog 85 (cAt Try.f118 [2, 1, 2, 5, 7, 2, 1, 5, 2, 2, 5, 7]) (mk [(0, .c (.sl true 5 (edts true l))), (3, .pt 3000 [] 0), (5, .c (.sc (.int .i64 (t : Int)))), (6, .c (.sc (.int .i64 (m : Int))))] [(3000, .bx (edtC true ⟨(TT : Nat), ct, ck, it, tx⟩))]) (KmQ l TT ct ck it tx t m) := by
  have cf := c_spec_l22Find l t m (by omega)
  rw [hf] at cf
  have hf' : Hd _ := hf
  clear hf
  have hkk := hcl k hkl
  have hTk : TT < l[k].ck.length := by omega
  have hcT : Hd (ckAt l[k].ck (TT : Int) = l[k].ck[TT]) := by simp [Hd, ckAt, hTk]
  have hkn : ¬ (k : Int) < 0 := by omega
  have hge : l[k].ck[TT]?.getD 0 = l[k].ck[TT] := by simp [hTk]
  have hTT : (t : Int) = TT ↔ t = TT := by omega
  have e2 : wrap64 ((m : Int) + 1) = ((m + 1 : Nat) : Int) := by rw [w64 (by omega) (by omega)]; omega
  clear hcl
  have hgood : Hd (¬ ((¬ (t : Int) = (TT : Int) ∨ ¬ (m : Int) = ct) ∧ ct ≤ ckAt l[k].ck (TT : Int))) := by rw [Hd, hcT.out]; omega
  obtain ⟨b1, b2⟩ := b1
  clear hge
  subst b1
  subst b2
  repeat' (first | with_reducible refine OutOK.done ?_ | refine thenQ_n ?_ | refine thenQ_r ?_ | refine thenQ_e ?_ | refine AW.seq ?_ | refine AW.dreg tok mixed [17, 21]  [(0, false), (1, false), (2, false), (3, false), (4, false), (5, false), (6, false), (7, false), (8, false), (9, false), (10, false), (11, false), (12, false), (13, false), (14, false), (16, false), (20, false), (15, false), (17, true), (18, false), (19, false), (21, true), (22, false), (23, false)] (by decide +kernel) rfl (by simp [*]; rfl) ?_ | refine AW.dreg tok mixed [9, 11, 12]  [(0, false), (1, false), (2, false), (3, false), (5, false), (8, false), (10, false), (4, false), (6, false), (7, false), (9, true), (11, true), (12, true), (13, false)] (by decide +kernel) rfl (by simp [*]; rfl) ?_ | refine AW.reg tok (by simp [*]; rfl) ?_ | refine AW.ifB (by simp [*]; rfl) ?_ | refine IfG.t ?_ | refine IfG.f ?_ | (refine IfG.p (fun hg => ?_) (fun hg => ?_) <;> (try (have hg' := hg; simp at hg'))) | (refine IfG.n (fun hg => ?_) (fun hg => ?_) <;> (try (have hg' := hg; simp at hg'))) | (refine OutOK.gateP (fun hg => ?_) (fun hg => ?_) <;> (try (have hg' := hg; simp at hg'))) | (refine OutOK.gateN (fun hg => ?_) (fun hg => ?_) <;> (try (have hg' := hg; simp at hg'))) | (refine IfG.g (fun hg => ?_) (fun hg => ?_) <;> (try (have hg' := hg; simp at hg'))) | (refine OutOK.gate (fun hg => ?_) (fun hg => ?_) <;> (try (have hg' := hg; simp at hg'))) | (refine OutOK.callF [] (by simp [*]; rfl) (by simp [*]; rfl) (by simp [*]; rfl) hb89 (by apply cf <;> first | assumption | exact Hd.out (by assumption) | ((try (clear e0)); (try (clear e1)); (try (clear e2)); (try (clear e3)); (try (clear e4)); (try (clear e5)); (try (clear e6)); (try (clear e7)); (try (clear e8)); (try (clear e9)); (try (clear e10)); (try (clear e11)); omega)) ⟨by simp [*], by simp [*], by simp [*], by simp [*], by simp [*]⟩ (by simp [*]) (by simp [*]; rfl) ?_) | refine OutOK.run (by simp [*]; rfl) ?_ | refine AW.ret ?_ | refine AW.skip ?_ | refine AW.exit ?_ | refine fin_r ?_ | refine fin_n ?_ | refine AW.block ?_ | refine blockQ_n ?_ | refine blockQ_r ?_ | refine blockQ_e ?_ | refine blockQ_o rfl ?_)
  refine AW.loopL (α := Nat) (fun u => u ≤ ck.length ∧ Hd (∀ j < u, l[k].ck[j]?.getD 0 ≤ ck[j]?.getD 0)) (fun u => [(0, .c (.sl true 5 (edts true l))), (3, .pt 3000 [] 0), (5, .c (.sc (.int .i64 (t : Int)))), (6, .c (.sc (.int .i64 (m : Int)))), (7, .c (.sc (.int .i64 (k : Int)))), (8, .c (.sc (.int .i64 (u : Int))))]) (fun _ => [(3000, .bx (edtC true ⟨(t : Nat), (m : Int), ck, it, tx⟩))]) (fun u => ck.length - u) 0 ⟨Nat.zero_le _, fun j hj => by omega⟩ ⟨by simp, by simp, by simp⟩ ?_
  rintro u ⟨hu, hus⟩
  have hge : Hd (l[k]?.getD default = l[k]) := by simp [Hd, hkl]
  rcases Nat.lt_or_ge u ck.length with hul | hul
  · refine (w_knU l t m ck it tx t m k u hkl hl hul hck hkk).mono fun e st hq => ?_
    have huk : u < l[k].ck.length := by omega
    rcases hq with ⟨rfl, hn, hq⟩ | ⟨rfl, hn, hq⟩
    · rw [hge.out] at hn
      refine .inl ⟨rfl, fun hk => ?_, hq⟩
      obtain ⟨k', hk', hk2, _, hk4⟩ := hk
      rw [hf'.out] at hk2
      have : k' = k := by omega
      subst this
      have := noGr_iff.1 hk4 u huk
      simp only at this
      omega
    · rw [hge.out] at hn
      refine ⟨u + 1, ⟨hul, fun j hj => ?_⟩, hq, by omega⟩
      rcases Nat.lt_succ_iff_lt_or_eq.1 hj with h1 | rfl
      · exact hus.out j h1
      · omega
  · have hU : noGr l[k].ck ck = true := noGr_iff.2 (fun j hj => hus.out j (by omega))
    have hul' : ¬ u < ck.length := by omega
    have hB : Hd (KnB l ⟨(t : Nat), (m : Int), ck, it, tx⟩ t m) := ⟨k, hkl, hf'.out, hgood.out, hU⟩
    clear hU
    repeat' (first | with_reducible refine OutOK.done ?_ | refine thenQ_n ?_ | refine thenQ_r ?_ | refine thenQ_e ?_ | refine AW.seq ?_ | refine AW.dreg tok mixed [17, 21]  [(0, false), (1, false), (2, false), (3, false), (4, false), (5, false), (6, false), (7, false), (8, false), (9, false), (10, false), (11, false), (12, false), (13, false), (14, false), (16, false), (20, false), (15, false), (17, true), (18, false), (19, false), (21, true), (22, false), (23, false)] (by decide +kernel) rfl (by simp [*]; rfl) ?_ | refine AW.dreg tok mixed [9, 11, 12]  [(0, false), (1, false), (2, false), (3, false), (5, false), (8, false), (10, false), (4, false), (6, false), (7, false), (9, true), (11, true), (12, true), (13, false)] (by decide +kernel) rfl (by simp [*]; rfl) ?_ | refine AW.reg tok (by simp [*]; rfl) ?_ | refine AW.ifB (by simp [*]; rfl) ?_ | refine IfG.t ?_ | refine IfG.f ?_ | (refine IfG.p (fun hg => ?_) (fun hg => ?_) <;> (try (have hg' := hg; simp at hg'))) | (refine IfG.n (fun hg => ?_) (fun hg => ?_) <;> (try (have hg' := hg; simp at hg'))) | (refine OutOK.gateP (fun hg => ?_) (fun hg => ?_) <;> (try (have hg' := hg; simp at hg'))) | (refine OutOK.gateN (fun hg => ?_) (fun hg => ?_) <;> (try (have hg' := hg; simp at hg'))) | (refine IfG.g (fun hg => ?_) (fun hg => ?_) <;> (try (have hg' := hg; simp at hg'))) | (refine OutOK.gate (fun hg => ?_) (fun hg => ?_) <;> (try (have hg' := hg; simp at hg'))) | refine OutOK.run (by simp [*]; rfl) ?_ | refine AW.ret ?_ | refine AW.skip ?_ | refine AW.exit ?_ | refine fin_r ?_ | refine fin_n ?_ | refine AW.block ?_ | refine blockQ_n ?_ | refine blockQ_r ?_ | refine blockQ_e ?_ | refine blockQ_o rfl ?_)
    exact .inr ⟨rfl, hB.out, by simp, by simp, by simp⟩
theorem w_knM4 (l : List Edt) (TT : Nat) (ct : Int) (ck : List Int) (it tx : ByteArray) (t m : Nat) (hl : l.length ≤ 24) (hck : ck.length ≤ 3) (ht : t < ck.length) (hTl : TT < ck.length) (hcl : ∀ k (hk : k < l.length), l[k].ck.length = ck.length) (m1 : 1 ≤ m) (m2 : m ≤ 24) (hml : (m : Int) ≤ ck[t]) (k : Nat) (hkl : k < l.length) (hf : fndE l t m = (k : Int)) (b1 : ¬ t = TT ∧ ¬ ct ≤ l[k].ck[TT]?.getD 0) : AW Try.prog 85 (cAt Try.f118 [2, 1, 2, 5, 7, 2, 1, 5, 2, 2, 5, 7]) (mk [(0, .c (.sl true 5 (edts true l))), (3, .pt 3000 [] 0), (5, .c (.sc (.int .i64 (t : Int)))), (6, .c (.sc (.int .i64 (m : Int))))] [(3000, .bx (edtC true ⟨(TT : Nat), ct, ck, it, tx⟩))]) (KmQ l TT ct ck it tx t m) := by
  have cf := c_spec_l22Find l t m (by omega)
  rw [hf] at cf
  have hf' : Hd _ := hf
  clear hf
  have hkk := hcl k hkl
  have hTk : TT < l[k].ck.length := by omega
  have hcT : Hd (ckAt l[k].ck (TT : Int) = l[k].ck[TT]) := by simp [Hd, ckAt, hTk]
  have hkn : ¬ (k : Int) < 0 := by omega
  have hge : l[k].ck[TT]?.getD 0 = l[k].ck[TT] := by simp [hTk]
  have hTT : (t : Int) = TT ↔ t = TT := by omega
  have e2 : wrap64 ((m : Int) + 1) = ((m + 1 : Nat) : Int) := by rw [w64 (by omega) (by omega)]; omega
  clear hcl
  have hgood : Hd (¬ ((¬ (t : Int) = (TT : Int) ∨ ¬ (m : Int) = ct) ∧ ct ≤ ckAt l[k].ck (TT : Int))) := by rw [Hd, hcT.out]; rw [hge] at b1; omega
  rw [hge] at b1
  clear hge
  obtain ⟨b1, b2⟩ := b1
  clear hTT
  have hTT : ¬ (t : Int) = TT := by omega
  repeat' (first | with_reducible refine OutOK.done ?_ | refine thenQ_n ?_ | refine thenQ_r ?_ | refine thenQ_e ?_ | refine AW.seq ?_ | refine AW.dreg tok mixed [17, 21]  [(0, false), (1, false), (2, false), (3, false), (4, false), (5, false), (6, false), (7, false), (8, false), (9, false), (10, false), (11, false), (12, false), (13, false), (14, false), (16, false), (20, false), (15, false), (17, true), (18, false), (19, false), (21, true), (22, false), (23, false)] (by decide +kernel) rfl (by simp [*]; rfl) ?_ | refine AW.dreg tok mixed [9, 11, 12]  [(0, false), (1, false), (2, false), (3, false), (5, false), (8, false), (10, false), (4, false), (6, false), (7, false), (9, true), (11, true), (12, true), (13, false)] (by decide +kernel) rfl (by simp [*]; rfl) ?_ | refine AW.reg tok (by simp [*]; rfl) ?_ | refine AW.ifB (by simp [*]; rfl) ?_ | refine IfG.t ?_ | refine IfG.f ?_ | (refine IfG.p (fun hg => ?_) (fun hg => ?_) <;> (try (have hg' := hg; simp at hg'))) | (refine IfG.n (fun hg => ?_) (fun hg => ?_) <;> (try (have hg' := hg; simp at hg'))) | (refine OutOK.gateP (fun hg => ?_) (fun hg => ?_) <;> (try (have hg' := hg; simp at hg'))) | (refine OutOK.gateN (fun hg => ?_) (fun hg => ?_) <;> (try (have hg' := hg; simp at hg'))) | (refine IfG.g (fun hg => ?_) (fun hg => ?_) <;> (try (have hg' := hg; simp at hg'))) | (refine OutOK.gate (fun hg => ?_) (fun hg => ?_) <;> (try (have hg' := hg; simp at hg'))) | (refine OutOK.callF [] (by simp [*]; rfl) (by simp [*]; rfl) (by simp [*]; rfl) hb89 (by apply cf <;> first | assumption | exact Hd.out (by assumption) | ((try (clear e0)); (try (clear e1)); (try (clear e2)); (try (clear e3)); (try (clear e4)); (try (clear e5)); (try (clear e6)); (try (clear e7)); (try (clear e8)); (try (clear e9)); (try (clear e10)); (try (clear e11)); omega)) ⟨by simp [*], by simp [*], by simp [*], by simp [*], by simp [*]⟩ (by simp [*]) (by simp [*]; rfl) ?_) | refine OutOK.run (by simp [*]; rfl) ?_ | refine AW.ret ?_ | refine AW.skip ?_ | refine AW.exit ?_ | refine fin_r ?_ | refine fin_n ?_ | refine AW.block ?_ | refine blockQ_n ?_ | refine blockQ_r ?_ | refine blockQ_e ?_ | refine blockQ_o rfl ?_)
  refine AW.loopL (α := Nat) (fun u => u ≤ ck.length ∧ Hd (∀ j < u, l[k].ck[j]?.getD 0 ≤ ck[j]?.getD 0)) (fun u => [(0, .c (.sl true 5 (edts true l))), (3, .pt 3000 [] 0), (5, .c (.sc (.int .i64 (t : Int)))), (6, .c (.sc (.int .i64 (m : Int)))), (7, .c (.sc (.int .i64 (k : Int)))), (8, .c (.sc (.int .i64 (u : Int))))]) (fun _ => [(3000, .bx (edtC true ⟨(TT : Nat), ct, ck, it, tx⟩))]) (fun u => ck.length - u) 0 ⟨Nat.zero_le _, fun j hj => by omega⟩ ⟨by simp, by simp, by simp⟩ ?_
  rintro u ⟨hu, hus⟩
  have hge : Hd (l[k]?.getD default = l[k]) := by simp [Hd, hkl]
  rcases Nat.lt_or_ge u ck.length with hul | hul
  · refine (w_knU l TT ct ck it tx t m k u hkl hl hul hck hkk).mono fun e st hq => ?_
    have huk : u < l[k].ck.length := by omega
    rcases hq with ⟨rfl, hn, hq⟩ | ⟨rfl, hn, hq⟩
    · rw [hge.out] at hn
      refine .inl ⟨rfl, fun hk => ?_, hq⟩
      obtain ⟨k', hk', hk2, _, hk4⟩ := hk
      rw [hf'.out] at hk2
      have : k' = k := by omega
      subst this
      have := noGr_iff.1 hk4 u huk
      simp only at this
      omega
    · rw [hge.out] at hn
      refine ⟨u + 1, ⟨hul, fun j hj => ?_⟩, hq, by omega⟩
      rcases Nat.lt_succ_iff_lt_or_eq.1 hj with h1 | rfl
      · exact hus.out j h1
      · omega
  · have hU : noGr l[k].ck ck = true := noGr_iff.2 (fun j hj => hus.out j (by omega))
    have hul' : ¬ u < ck.length := by omega
    have hB : Hd (KnB l ⟨(TT : Nat), ct, ck, it, tx⟩ t m) := ⟨k, hkl, hf'.out, hgood.out, hU⟩
    clear hU
    repeat' (first | with_reducible refine OutOK.done ?_ | refine thenQ_n ?_ | refine thenQ_r ?_ | refine thenQ_e ?_ | refine AW.seq ?_ | refine AW.dreg tok mixed [17, 21]  [(0, false), (1, false), (2, false), (3, false), (4, false), (5, false), (6, false), (7, false), (8, false), (9, false), (10, false), (11, false), (12, false), (13, false), (14, false), (16, false), (20, false), (15, false), (17, true), (18, false), (19, false), (21, true), (22, false), (23, false)] (by decide +kernel) rfl (by simp [*]; rfl) ?_ | refine AW.dreg tok mixed [9, 11, 12]  [(0, false), (1, false), (2, false), (3, false), (5, false), (8, false), (10, false), (4, false), (6, false), (7, false), (9, true), (11, true), (12, true), (13, false)] (by decide +kernel) rfl (by simp [*]; rfl) ?_ | refine AW.reg tok (by simp [*]; rfl) ?_ | refine AW.ifB (by simp [*]; rfl) ?_ | refine IfG.t ?_ | refine IfG.f ?_ | (refine IfG.p (fun hg => ?_) (fun hg => ?_) <;> (try (have hg' := hg; simp at hg'))) | (refine IfG.n (fun hg => ?_) (fun hg => ?_) <;> (try (have hg' := hg; simp at hg'))) | (refine OutOK.gateP (fun hg => ?_) (fun hg => ?_) <;> (try (have hg' := hg; simp at hg'))) | (refine OutOK.gateN (fun hg => ?_) (fun hg => ?_) <;> (try (have hg' := hg; simp at hg'))) | (refine IfG.g (fun hg => ?_) (fun hg => ?_) <;> (try (have hg' := hg; simp at hg'))) | (refine OutOK.gate (fun hg => ?_) (fun hg => ?_) <;> (try (have hg' := hg; simp at hg'))) | refine OutOK.run (by simp [*]; rfl) ?_ | refine AW.ret ?_ | refine AW.skip ?_ | refine AW.exit ?_ | refine fin_r ?_ | refine fin_n ?_ | refine AW.block ?_ | refine blockQ_n ?_ | refine blockQ_r ?_ | refine blockQ_e ?_ | refine blockQ_o rfl ?_)
    exact .inr ⟨rfl, hB.out, by simp, by simp, by simp⟩
theorem w_knM5 (l : List Edt) (TT : Nat) (ct : Int) (ck : List Int) (it tx : ByteArray) (t m : Nat) (hl : l.length ≤ 24) (hck : ck.length ≤ 3) (ht : t < ck.length) (hTl : TT < ck.length) (hcl : ∀ k (hk : k < l.length), l[k].ck.length = ck.length) (m1 : 1 ≤ m) (m2 : m ≤ 24) (hml : (m : Int) ≤ ck[t]) (k : Nat) (hkl : k < l.length) (hf : fndE l t m = (k : Int)) (b1 : t = TT ∧ ¬ (m : Int) = ct ∧ ¬ ct ≤ l[k].ck[TT]?.getD 0) : AW Try.prog 85 (cAt Try.f118 [2, 1, 2, 5, 7, 2, 1, 5, 2, 2, 5, 7]) (mk [(0, .c (.sl true 5 (edts true l))), (3, .pt 3000 [] 0), (5, .c (.sc (.int .i64 (t : Int)))), (6, .c (.sc (.int .i64 (m : Int))))] [(3000, .bx (edtC true ⟨(TT : Nat), ct, ck, it, tx⟩))]) (KmQ l TT ct ck it tx t m) := by
  have cf := c_spec_l22Find l t m (by omega)
  rw [hf] at cf
  have hf' : Hd _ := hf
  clear hf
  have hkk := hcl k hkl
  have hTk : TT < l[k].ck.length := by omega
  have hcT : Hd (ckAt l[k].ck (TT : Int) = l[k].ck[TT]) := by simp [Hd, ckAt, hTk]
  have hkn : ¬ (k : Int) < 0 := by omega
  have hge : l[k].ck[TT]?.getD 0 = l[k].ck[TT] := by simp [hTk]
  have hTT : (t : Int) = TT ↔ t = TT := by omega
  have e2 : wrap64 ((m : Int) + 1) = ((m + 1 : Nat) : Int) := by rw [w64 (by omega) (by omega)]; omega
  clear hcl
  have hgood : Hd (¬ ((¬ (t : Int) = (TT : Int) ∨ ¬ (m : Int) = ct) ∧ ct ≤ ckAt l[k].ck (TT : Int))) := by rw [Hd, hcT.out]; rw [hge] at b1; omega
  rw [hge] at b1
  clear hge
  obtain ⟨b1, b2, b3⟩ := b1
  subst b1
  repeat' (first | with_reducible refine OutOK.done ?_ | refine thenQ_n ?_ | refine thenQ_r ?_ | refine thenQ_e ?_ | refine AW.seq ?_ | refine AW.dreg tok mixed [17, 21]  [(0, false), (1, false), (2, false), (3, false), (4, false), (5, false), (6, false), (7, false), (8, false), (9, false), (10, false), (11, false), (12, false), (13, false), (14, false), (16, false), (20, false), (15, false), (17, true), (18, false), (19, false), (21, true), (22, false), (23, false)] (by decide +kernel) rfl (by simp [*]; rfl) ?_ | refine AW.dreg tok mixed [9, 11, 12]  [(0, false), (1, false), (2, false), (3, false), (5, false), (8, false), (10, false), (4, false), (6, false), (7, false), (9, true), (11, true), (12, true), (13, false)] (by decide +kernel) rfl (by simp [*]; rfl) ?_ | refine AW.reg tok (by simp [*]; rfl) ?_ | refine AW.ifB (by simp [*]; rfl) ?_ | refine IfG.t ?_ | refine IfG.f ?_ | (refine IfG.p (fun hg => ?_) (fun hg => ?_) <;> (try (have hg' := hg; simp at hg'))) | (refine IfG.n (fun hg => ?_) (fun hg => ?_) <;> (try (have hg' := hg; simp at hg'))) | (refine OutOK.gateP (fun hg => ?_) (fun hg => ?_) <;> (try (have hg' := hg; simp at hg'))) | (refine OutOK.gateN (fun hg => ?_) (fun hg => ?_) <;> (try (have hg' := hg; simp at hg'))) | (refine IfG.g (fun hg => ?_) (fun hg => ?_) <;> (try (have hg' := hg; simp at hg'))) | (refine OutOK.gate (fun hg => ?_) (fun hg => ?_) <;> (try (have hg' := hg; simp at hg'))) | (refine OutOK.callF [] (by simp [*]; rfl) (by simp [*]; rfl) (by simp [*]; rfl) hb89 (by apply cf <;> first | assumption | exact Hd.out (by assumption) | ((try (clear e0)); (try (clear e1)); (try (clear e2)); (try (clear e3)); (try (clear e4)); (try (clear e5)); (try (clear e6)); (try (clear e7)); (try (clear e8)); (try (clear e9)); (try (clear e10)); (try (clear e11)); omega)) ⟨by simp [*], by simp [*], by simp [*], by simp [*], by simp [*]⟩ (by simp [*]) (by simp [*]; rfl) ?_) | refine OutOK.run (by simp [*]; rfl) ?_ | refine AW.ret ?_ | refine AW.skip ?_ | refine AW.exit ?_ | refine fin_r ?_ | refine fin_n ?_ | refine AW.block ?_ | refine blockQ_n ?_ | refine blockQ_r ?_ | refine blockQ_e ?_ | refine blockQ_o rfl ?_)
  refine AW.loopL (α := Nat) (fun u => u ≤ ck.length ∧ Hd (∀ j < u, l[k].ck[j]?.getD 0 ≤ ck[j]?.getD 0)) (fun u => [(0, .c (.sl true 5 (edts true l))), (3, .pt 3000 [] 0), (5, .c (.sc (.int .i64 (t : Int)))), (6, .c (.sc (.int .i64 (m : Int)))), (7, .c (.sc (.int .i64 (k : Int)))), (8, .c (.sc (.int .i64 (u : Int))))]) (fun _ => [(3000, .bx (edtC true ⟨(t : Nat), ct, ck, it, tx⟩))]) (fun u => ck.length - u) 0 ⟨Nat.zero_le _, fun j hj => by omega⟩ ⟨by simp, by simp, by simp⟩ ?_
  rintro u ⟨hu, hus⟩
  have hge : Hd (l[k]?.getD default = l[k]) := by simp [Hd, hkl]
  rcases Nat.lt_or_ge u ck.length with hul | hul
  · refine (w_knU l t ct ck it tx t m k u hkl hl hul hck hkk).mono fun e st hq => ?_
    have huk : u < l[k].ck.length := by omega
    rcases hq with ⟨rfl, hn, hq⟩ | ⟨rfl, hn, hq⟩
    · rw [hge.out] at hn
      refine .inl ⟨rfl, fun hk => ?_, hq⟩
      obtain ⟨k', hk', hk2, _, hk4⟩ := hk
      rw [hf'.out] at hk2
      have : k' = k := by omega
      subst this
      have := noGr_iff.1 hk4 u huk
      simp only at this
      omega
    · rw [hge.out] at hn
      refine ⟨u + 1, ⟨hul, fun j hj => ?_⟩, hq, by omega⟩
      rcases Nat.lt_succ_iff_lt_or_eq.1 hj with h1 | rfl
      · exact hus.out j h1
      · omega
  · have hU : noGr l[k].ck ck = true := noGr_iff.2 (fun j hj => hus.out j (by omega))
    have hul' : ¬ u < ck.length := by omega
    have hB : Hd (KnB l ⟨(t : Nat), ct, ck, it, tx⟩ t m) := ⟨k, hkl, hf'.out, hgood.out, hU⟩
    clear hU
    repeat' (first | with_reducible refine OutOK.done ?_ | refine thenQ_n ?_ | refine thenQ_r ?_ | refine thenQ_e ?_ | refine AW.seq ?_ | refine AW.dreg tok mixed [17, 21]  [(0, false), (1, false), (2, false), (3, false), (4, false), (5, false), (6, false), (7, false), (8, false), (9, false), (10, false), (11, false), (12, false), (13, false), (14, false), (16, false), (20, false), (15, false), (17, true), (18, false), (19, false), (21, true), (22, false), (23, false)] (by decide +kernel) rfl (by simp [*]; rfl) ?_ | refine AW.dreg tok mixed [9, 11, 12]  [(0, false), (1, false), (2, false), (3, false), (5, false), (8, false), (10, false), (4, false), (6, false), (7, false), (9, true), (11, true), (12, true), (13, false)] (by decide +kernel) rfl (by simp [*]; rfl) ?_ | refine AW.reg tok (by simp [*]; rfl) ?_ | refine AW.ifB (by simp [*]; rfl) ?_ | refine IfG.t ?_ | refine IfG.f ?_ | (refine IfG.p (fun hg => ?_) (fun hg => ?_) <;> (try (have hg' := hg; simp at hg'))) | (refine IfG.n (fun hg => ?_) (fun hg => ?_) <;> (try (have hg' := hg; simp at hg'))) | (refine OutOK.gateP (fun hg => ?_) (fun hg => ?_) <;> (try (have hg' := hg; simp at hg'))) | (refine OutOK.gateN (fun hg => ?_) (fun hg => ?_) <;> (try (have hg' := hg; simp at hg'))) | (refine IfG.g (fun hg => ?_) (fun hg => ?_) <;> (try (have hg' := hg; simp at hg'))) | (refine OutOK.gate (fun hg => ?_) (fun hg => ?_) <;> (try (have hg' := hg; simp at hg'))) | refine OutOK.run (by simp [*]; rfl) ?_ | refine AW.ret ?_ | refine AW.skip ?_ | refine AW.exit ?_ | refine fin_r ?_ | refine fin_n ?_ | refine AW.block ?_ | refine blockQ_n ?_ | refine blockQ_r ?_ | refine blockQ_e ?_ | refine blockQ_o rfl ?_)
    exact .inr ⟨rfl, hB.out, by simp, by simp, by simp⟩
theorem w_knM (l : List Edt) (TT : Nat) (ct : Int) (ck : List Int) (it tx : ByteArray) (t m : Nat) (hl : l.length ≤ 24) (hck : ck.length ≤ 3) (ht : t < ck.length) (hTl : TT < ck.length) (hcl : ∀ k (hk : k < l.length), l[k].ck.length = ck.length) (m1 : 1 ≤ m) (m2 : m ≤ 24) (hml : (m : Int) ≤ ck[t]) : AW Try.prog 85 (cAt Try.f118 [2, 1, 2, 5, 7, 2, 1, 5, 2, 2, 5, 7]) (mk [(0, .c (.sl true 5 (edts true l))), (3, .pt 3000 [] 0), (5, .c (.sc (.int .i64 (t : Int)))), (6, .c (.sc (.int .i64 (m : Int))))] [(3000, .bx (edtC true ⟨(TT : Nat), ct, ck, it, tx⟩))]) (KmQ l TT ct ck it tx t m) := by
  rcases idx_cases (keyE t m) l with hf | ⟨k, hf, hkl⟩
  · exact w_knM0 l TT ct ck it tx t m hl hck ht hTl hcl m1 m2 hml hf
  · have hTk : TT < l[k].ck.length := by have := hcl k hkl; omega
    by_cases b1 : t = TT
    · by_cases b2 : (m : Int) = ct
      · exact w_knM3 l TT ct ck it tx t m hl hck ht hTl hcl m1 m2 hml k hkl hf ⟨b1, b2⟩
      · by_cases b3 : ct ≤ l[k].ck[TT]?.getD 0
        · exact w_knM2 l TT ct ck it tx t m hl hck ht hTl hcl m1 m2 hml k hkl hf ⟨b1, b2⟩ b3
        · exact w_knM5 l TT ct ck it tx t m hl hck ht hTl hcl m1 m2 hml k hkl hf ⟨b1, b2, b3⟩
    · by_cases b3 : ct ≤ l[k].ck[TT]?.getD 0
      · exact w_knM1 l TT ct ck it tx t m hl hck ht hTl hcl m1 m2 hml k hkl hf b1 b3
      · exact w_knM4 l TT ct ck it tx t m hl hck ht hTl hcl m1 m2 hml k hkl hf ⟨b1, b3⟩
theorem c_spec_l22Knows (l : List Edt) (e : Edt) (T : Nat) (B : Bool) (hB : B = true ↔ Kn l e) (h : l.length ≤ 24) (hn : e.ck.length ≤ 3) (hT : e.tm = T) (hTl : T < e.ck.length) (hcl : ∀ x ∈ l, x.ck.length = e.ck.length) : ACall Try.prog 118 [.v (.sl true 5 (edts true l)), edtD e] [.x, .x] [boo B] := by
  have hB' : Hd _ := hB
  have hcl' : Hd _ := hcl
  clear hB hcl
  obtain ⟨tm, ct, ck, it, tx⟩ := e
  simp only at hT hTl hn
  subst hT
  have hcl' : Hd (∀ k (hk : k < l.length), l[k].ck.length = ck.length) := fun k hk => hcl'.out _ (List.getElem_mem hk)
  have no : Hd (¬ Kn l ⟨T, ct, ck, it, tx⟩ → B = false) := fun hk => by rw [Bool.eq_false_iff]; exact fun hb => hk (hB'.out.1 hb)
  refine ACall.of (N := 85) tok Try.func118 rfl rfl rfl (by simp) ?_
  repeat' (first | with_reducible refine OutOK.done ?_ | refine thenQ_n ?_ | refine thenQ_r ?_ | refine thenQ_e ?_ | refine AW.seq ?_ | refine AW.dreg tok mixed [17, 21]  [(0, false), (1, false), (2, false), (3, false), (4, false), (5, false), (6, false), (7, false), (8, false), (9, false), (10, false), (11, false), (12, false), (13, false), (14, false), (16, false), (20, false), (15, false), (17, true), (18, false), (19, false), (21, true), (22, false), (23, false)] (by decide +kernel) rfl (by simp [*]; rfl) ?_ | refine AW.dreg tok mixed [9, 11, 12]  [(0, false), (1, false), (2, false), (3, false), (5, false), (8, false), (10, false), (4, false), (6, false), (7, false), (9, true), (11, true), (12, true), (13, false)] (by decide +kernel) rfl (by simp [*]; rfl) ?_ | refine AW.reg tok (by simp [*]; rfl) ?_ | refine AW.ifB (by simp [*]; rfl) ?_ | refine IfG.t ?_ | refine IfG.f ?_ | (refine IfG.p (fun hg => ?_) (fun hg => ?_) <;> (try (have hg' := hg; simp at hg'))) | (refine IfG.n (fun hg => ?_) (fun hg => ?_) <;> (try (have hg' := hg; simp at hg'))) | (refine OutOK.gateP (fun hg => ?_) (fun hg => ?_) <;> (try (have hg' := hg; simp at hg'))) | (refine OutOK.gateN (fun hg => ?_) (fun hg => ?_) <;> (try (have hg' := hg; simp at hg'))) | (refine IfG.g (fun hg => ?_) (fun hg => ?_) <;> (try (have hg' := hg; simp at hg'))) | (refine OutOK.gate (fun hg => ?_) (fun hg => ?_) <;> (try (have hg' := hg; simp at hg'))) | refine OutOK.run (by simp [*]; rfl) ?_ | refine AW.ret ?_ | refine AW.skip ?_ | refine AW.exit ?_ | refine fin_r ?_ | refine fin_n ?_ | refine AW.block ?_ | refine blockQ_n ?_ | refine blockQ_r ?_ | refine blockQ_e ?_ | refine blockQ_o rfl ?_)
  refine AW.loopL (α := Nat) (fun t => t ≤ ck.length ∧ Hd (∀ j < t, KnT l ⟨T, ct, ck, it, tx⟩ j)) (fun t => [(0, .c (.sl true 5 (edts true l))), (3, .pt 3000 [] 0), (5, .c (.sc (.int .i64 (t : Int))))]) (fun _ => [(3000, .bx (edtC true ⟨T, ct, ck, it, tx⟩))]) (fun t => ck.length - t) 0 ⟨Nat.zero_le _, fun j hj => by omega⟩ ⟨by simp, by simp, by simp⟩ ?_
  rintro t ⟨ht, hs⟩
  rcases Nat.lt_or_ge t ck.length with htl | htl
  · have e1 : wrap64 ((t : Int) + 1) = ((t + 1 : Nat) : Int) := by rw [w64 (by omega) (by omega)]; omega
    have hca : Hd (ckAt ck t = ck[t]) := by simp [Hd, ckAt, htl]
    cases hR : inR 0 l.length ck[t] with
    | false =>
      have hb := no.out (fun hk => by have := (hk t htl).1; simp only [hca.out, hR] at this; cases this)
      subst hb
      clear no hB'
      repeat' (first | with_reducible refine OutOK.done ?_ | refine thenQ_n ?_ | refine thenQ_r ?_ | refine thenQ_e ?_ | refine AW.seq ?_ | refine AW.dreg tok mixed [17, 21]  [(0, false), (1, false), (2, false), (3, false), (4, false), (5, false), (6, false), (7, false), (8, false), (9, false), (10, false), (11, false), (12, false), (13, false), (14, false), (16, false), (20, false), (15, false), (17, true), (18, false), (19, false), (21, true), (22, false), (23, false)] (by decide +kernel) rfl (by simp [*]; rfl) ?_ | refine AW.dreg tok mixed [9, 11, 12]  [(0, false), (1, false), (2, false), (3, false), (5, false), (8, false), (10, false), (4, false), (6, false), (7, false), (9, true), (11, true), (12, true), (13, false)] (by decide +kernel) rfl (by simp [*]; rfl) ?_ | refine AW.reg tok (by simp [*]; rfl) ?_ | refine AW.ifB (by simp [*]; rfl) ?_ | refine IfG.t ?_ | refine IfG.f ?_ | (refine IfG.p (fun hg => ?_) (fun hg => ?_) <;> (try (have hg' := hg; simp at hg'))) | (refine IfG.n (fun hg => ?_) (fun hg => ?_) <;> (try (have hg' := hg; simp at hg'))) | (refine OutOK.gateP (fun hg => ?_) (fun hg => ?_) <;> (try (have hg' := hg; simp at hg'))) | (refine OutOK.gateN (fun hg => ?_) (fun hg => ?_) <;> (try (have hg' := hg; simp at hg'))) | (refine IfG.g (fun hg => ?_) (fun hg => ?_) <;> (try (have hg' := hg; simp at hg'))) | (refine OutOK.gate (fun hg => ?_) (fun hg => ?_) <;> (try (have hg' := hg; simp at hg'))) | (refine OutOK.callF [] (by simp [*]; rfl) (by simp [*]; rfl) (by simp [*]; rfl) hb64 (by apply c_spec_l1In <;> first | assumption | exact Hd.out (by assumption) | ((try (clear e0)); (try (clear e1)); (try (clear e2)); (try (clear e3)); (try (clear e4)); (try (clear e5)); (try (clear e6)); (try (clear e7)); (try (clear e8)); (try (clear e9)); (try (clear e10)); (try (clear e11)); omega)) ⟨by simp [*], by simp [*], by simp [*], by simp [*], by simp [*]⟩ (by simp [*]) (by simp [*]; rfl) ?_) | refine OutOK.run (by simp [*]; rfl) ?_ | refine AW.ret ?_ | refine AW.skip ?_ | refine AW.exit ?_ | refine fin_r ?_ | refine fin_n ?_ | refine AW.block ?_ | refine blockQ_n ?_ | refine blockQ_r ?_ | refine blockQ_e ?_ | refine blockQ_o rfl ?_)
      all_goals simp [Try.f118]
    | true =>
      repeat' (first | with_reducible refine OutOK.done ?_ | refine thenQ_n ?_ | refine thenQ_r ?_ | refine thenQ_e ?_ | refine AW.seq ?_ | refine AW.dreg tok mixed [17, 21]  [(0, false), (1, false), (2, false), (3, false), (4, false), (5, false), (6, false), (7, false), (8, false), (9, false), (10, false), (11, false), (12, false), (13, false), (14, false), (16, false), (20, false), (15, false), (17, true), (18, false), (19, false), (21, true), (22, false), (23, false)] (by decide +kernel) rfl (by simp [*]; rfl) ?_ | refine AW.dreg tok mixed [9, 11, 12]  [(0, false), (1, false), (2, false), (3, false), (5, false), (8, false), (10, false), (4, false), (6, false), (7, false), (9, true), (11, true), (12, true), (13, false)] (by decide +kernel) rfl (by simp [*]; rfl) ?_ | refine AW.reg tok (by simp [*]; rfl) ?_ | refine AW.ifB (by simp [*]; rfl) ?_ | refine IfG.t ?_ | refine IfG.f ?_ | (refine IfG.p (fun hg => ?_) (fun hg => ?_) <;> (try (have hg' := hg; simp at hg'))) | (refine IfG.n (fun hg => ?_) (fun hg => ?_) <;> (try (have hg' := hg; simp at hg'))) | (refine OutOK.gateP (fun hg => ?_) (fun hg => ?_) <;> (try (have hg' := hg; simp at hg'))) | (refine OutOK.gateN (fun hg => ?_) (fun hg => ?_) <;> (try (have hg' := hg; simp at hg'))) | (refine IfG.g (fun hg => ?_) (fun hg => ?_) <;> (try (have hg' := hg; simp at hg'))) | (refine OutOK.gate (fun hg => ?_) (fun hg => ?_) <;> (try (have hg' := hg; simp at hg'))) | (refine OutOK.callF [] (by simp [*]; rfl) (by simp [*]; rfl) (by simp [*]; rfl) hb64 (by apply c_spec_l1In <;> first | assumption | exact Hd.out (by assumption) | ((try (clear e0)); (try (clear e1)); (try (clear e2)); (try (clear e3)); (try (clear e4)); (try (clear e5)); (try (clear e6)); (try (clear e7)); (try (clear e8)); (try (clear e9)); (try (clear e10)); (try (clear e11)); omega)) ⟨by simp [*], by simp [*], by simp [*], by simp [*], by simp [*]⟩ (by simp [*]) (by simp [*]; rfl) ?_) | refine OutOK.run (by simp [*]; rfl) ?_ | refine AW.ret ?_ | refine AW.skip ?_ | refine AW.exit ?_ | refine fin_r ?_ | refine fin_n ?_ | refine AW.block ?_ | refine blockQ_n ?_ | refine blockQ_r ?_ | refine blockQ_e ?_ | refine blockQ_o rfl ?_)
      obtain ⟨r1, r2⟩ := inR_iff.1 hR
      refine AW.loopL (α := Nat) (fun m => (1 ≤ m ∧ m ≤ 25 ∧ (m : Int) ≤ ck[t] + 1) ∧ Hd (∀ j < m, 1 ≤ j → KnB l ⟨T, ct, ck, it, tx⟩ t j)) (fun m => [(0, .c (.sl true 5 (edts true l))), (3, .pt 3000 [] 0), (5, .c (.sc (.int .i64 (t : Int)))), (6, .c (.sc (.int .i64 (m : Int))))]) (fun _ => [(3000, .bx (edtC true ⟨T, ct, ck, it, tx⟩))]) (fun m => 26 - m) 1 ⟨⟨by omega, by omega, by omega⟩, fun j hj h1 => by omega⟩ ⟨by simp, by simp, by simp⟩ ?_
      rintro m ⟨⟨m1, m2, m3⟩, hm⟩
      by_cases hml : (m : Int) ≤ ck[t]
      · refine (w_knM l T ct ck it tx t m h hn htl hTl hcl'.out m1 (by omega) hml).mono fun e st hq => ?_
        rcases hq with ⟨rfl, hk, hq⟩ | ⟨rfl, hk, hq⟩
        · have hb := no.out (fun hh => hk ((hh t htl).2 m m1 (by simp only [hca.out]; exact hml)))
          subst hb
          exact ⟨.inr rfl, hq⟩
        · refine ⟨m + 1, ⟨⟨by omega, by omega, by omega⟩, fun j hj h1 => ?_⟩, hq, by omega⟩
          rcases Nat.lt_succ_iff_lt_or_eq.1 hj with h2 | rfl
          · exact hm.out j h2 h1
          · exact hk
      · have hTt : Hd (∀ j < t + 1, KnT l ⟨T, ct, ck, it, tx⟩ j) := by
          intro j hj
          rcases Nat.lt_succ_iff_lt_or_eq.1 hj with h2 | rfl
          · exact hs.out j h2
          · exact ⟨by simp only [hca.out]; exact hR, fun q q1 q2 => hm.out q (by simp only [hca.out] at q2; omega) q1⟩
        clear no hB' r1 r2 m3
        repeat' (first | with_reducible refine OutOK.done ?_ | refine thenQ_n ?_ | refine thenQ_r ?_ | refine thenQ_e ?_ | refine AW.seq ?_ | refine AW.dreg tok mixed [17, 21]  [(0, false), (1, false), (2, false), (3, false), (4, false), (5, false), (6, false), (7, false), (8, false), (9, false), (10, false), (11, false), (12, false), (13, false), (14, false), (16, false), (20, false), (15, false), (17, true), (18, false), (19, false), (21, true), (22, false), (23, false)] (by decide +kernel) rfl (by simp [*]; rfl) ?_ | refine AW.dreg tok mixed [9, 11, 12]  [(0, false), (1, false), (2, false), (3, false), (5, false), (8, false), (10, false), (4, false), (6, false), (7, false), (9, true), (11, true), (12, true), (13, false)] (by decide +kernel) rfl (by simp [*]; rfl) ?_ | refine AW.reg tok (by simp [*]; rfl) ?_ | refine AW.ifB (by simp [*]; rfl) ?_ | refine IfG.t ?_ | refine IfG.f ?_ | (refine IfG.p (fun hg => ?_) (fun hg => ?_) <;> (try (have hg' := hg; simp at hg'))) | (refine IfG.n (fun hg => ?_) (fun hg => ?_) <;> (try (have hg' := hg; simp at hg'))) | (refine OutOK.gateP (fun hg => ?_) (fun hg => ?_) <;> (try (have hg' := hg; simp at hg'))) | (refine OutOK.gateN (fun hg => ?_) (fun hg => ?_) <;> (try (have hg' := hg; simp at hg'))) | (refine IfG.g (fun hg => ?_) (fun hg => ?_) <;> (try (have hg' := hg; simp at hg'))) | (refine OutOK.gate (fun hg => ?_) (fun hg => ?_) <;> (try (have hg' := hg; simp at hg'))) | refine OutOK.run (by simp [*]; rfl) ?_ | refine AW.ret ?_ | refine AW.skip ?_ | refine AW.exit ?_ | refine fin_r ?_ | refine fin_n ?_ | refine AW.block ?_ | refine blockQ_n ?_ | refine blockQ_r ?_ | refine blockQ_e ?_ | refine blockQ_o rfl ?_)
        exact ⟨t + 1, ⟨htl, hTt⟩, ⟨by simp, by simp, by simp⟩, by ((try (clear e0)); (try (clear e1)); (try (clear e2)); (try (clear e3)); (try (clear e4)); (try (clear e5)); (try (clear e6)); (try (clear e7)); (try (clear e8)); (try (clear e9)); (try (clear e10)); (try (clear e11)); omega)⟩
  · have htt : t = ck.length := by omega
    subst htt
    have hb : B = true := hB'.out.2 (fun j hj => hs.out j hj)
    subst hb
    clear no hB'
    repeat' (first | with_reducible refine OutOK.done ?_ | refine thenQ_n ?_ | refine thenQ_r ?_ | refine thenQ_e ?_ | refine AW.seq ?_ | refine AW.dreg tok mixed [17, 21]  [(0, false), (1, false), (2, false), (3, false), (4, false), (5, false), (6, false), (7, false), (8, false), (9, false), (10, false), (11, false), (12, false), (13, false), (14, false), (16, false), (20, false), (15, false), (17, true), (18, false), (19, false), (21, true), (22, false), (23, false)] (by decide +kernel) rfl (by simp [*]; rfl) ?_ | refine AW.dreg tok mixed [9, 11, 12]  [(0, false), (1, false), (2, false), (3, false), (5, false), (8, false), (10, false), (4, false), (6, false), (7, false), (9, true), (11, true), (12, true), (13, false)] (by decide +kernel) rfl (by simp [*]; rfl) ?_ | refine AW.reg tok (by simp [*]; rfl) ?_ | refine AW.ifB (by simp [*]; rfl) ?_ | refine IfG.t ?_ | refine IfG.f ?_ | (refine IfG.p (fun hg => ?_) (fun hg => ?_) <;> (try (have hg' := hg; simp at hg'))) | (refine IfG.n (fun hg => ?_) (fun hg => ?_) <;> (try (have hg' := hg; simp at hg'))) | (refine OutOK.gateP (fun hg => ?_) (fun hg => ?_) <;> (try (have hg' := hg; simp at hg'))) | (refine OutOK.gateN (fun hg => ?_) (fun hg => ?_) <;> (try (have hg' := hg; simp at hg'))) | (refine IfG.g (fun hg => ?_) (fun hg => ?_) <;> (try (have hg' := hg; simp at hg'))) | (refine OutOK.gate (fun hg => ?_) (fun hg => ?_) <;> (try (have hg' := hg; simp at hg'))) | refine OutOK.run (by simp [*]; rfl) ?_ | refine AW.ret ?_ | refine AW.skip ?_ | refine AW.exit ?_ | refine fin_r ?_ | refine fin_n ?_ | refine AW.block ?_ | refine blockQ_n ?_ | refine blockQ_r ?_ | refine blockQ_e ?_ | refine blockQ_o rfl ?_)
    simp [Try.f118]
end Go.Proofs.Ytbofobjofngoeaa.EngS


set_option linter.unusedSimpArgs false
set_option linter.unusedVariables false
set_option maxHeartbeats 4000000
set_option maxRecDepth 100000
namespace Go.Proofs.Ytbofobjofngoeaa.EngS
open Go Go.Proofs Go.Eng Go.RowKit
def cntE (l : List Edt) (t : Int) : Nat := (l.filter fun e => decide (e.tm = t)).length
theorem cntE_snoc (l : List Edt) (e : Edt) (t : Int) : cntE (l ++ [e]) t = cntE l t + (if e.tm = t then 1 else 0) := by
  simp only [cntE, List.filter_append, List.length_append]
  by_cases h : e.tm = t <;> simp [h]
theorem cntE_take (l : List Edt) (i : Nat) (h : i < l.length) (t : Int) : cntE (l.take (i + 1)) t = cntE (l.take i) t + (if l[i].tm = t then 1 else 0) := by
  rw [List.take_succ_eq_append_getElem h, cntE_snoc]
theorem cntE_le (l : List Edt) (t : Int) : cntE l t ≤ l.length := List.length_filter_le _ _
theorem cntE_mono (l : List Edt) (t : Int) {i j : Nat} (h : i ≤ j) : cntE (l.take i) t ≤ cntE (l.take j) t := by
  have : l.take j = l.take i ++ (l.take j).drop i := by
    rw [show l.take i = (l.take j).take i by rw [List.take_take, Nat.min_eq_left h], List.take_append_drop]
  rw [this, cntE, cntE, List.filter_append, List.length_append]; omega
theorem cntE_all (l : List Edt) (t : Int) (i : Nat) : cntE (l.take i) t ≤ cntE l t := by
  rcases Nat.le_total i l.length with h | h
  · have := cntE_mono l t h; rwa [List.take_length] at this
  · rw [List.take_of_length_le h]; exact Nat.le_refl _
def St1 (l : List Edt) (n : Int) (i : Nat) (h : i < l.length) : Prop := inR 0 (n - 1) l[i].tm = true ∧ (∀ j (hj : j < l.length), i = j + 1 → cmpE l[j] l[i] < 0) ∧ l[i].ct = (cntE (l.take i) l[i].tm : Int) + 1
def St2 (l : List Edt) (i : Nat) (h : i < l.length) : Prop := (i = 0 → l[i].ct = 1) ∧ ∀ j (hj : j < l.length), i = j + 1 → (l[j].tm < l[i].tm ∧ l[i].ct = 1) ∨ (l[j].tm = l[i].tm ∧ l[j].ct + 1 = l[i].ct)
def Fl (e : Edt) (n : Int) : Prop := (e.ck.length : Int) = n ∧ ckAt e.ck e.tm = e.ct ∧ nameOK e.it = true ∧ textOK e.tx = true
theorem st1_inv {l : List Edt} {n : Int} : ∀ (i : Nat) (h : i < l.length), (∀ j (hj : j < l.length), j < i + 1 → St1 l n j hj) → (∀ t, l[i].tm < t → cntE (l.take (i + 1)) t = 0) ∧ (cntE (l.take (i + 1)) l[i].tm : Int) = l[i].ct
  | 0, h, hs => by
    have h0 := (hs 0 h (by omega)).2.2
    refine ⟨fun t ht => ?_, ?_⟩
    · rw [cntE_take l 0 h, if_neg (by omega)]; simp [cntE]
    · rw [cntE_take l 0 h, if_pos rfl, h0]; simp
  | i + 1, h, hs => by
    obtain ⟨k1, k2⟩ := st1_inv (n := n) i (by omega) (fun j hj hji => hs j hj (by omega))
    obtain ⟨_, s2, s3⟩ := hs (i + 1) h (by omega)
    have s2 := cmpE_neg.1 (s2 i (by omega) rfl)
    refine ⟨fun t ht => ?_, ?_⟩
    · rw [cntE_take l (i + 1) h, if_neg (by omega), k1 t (by omega)]
    · rw [cntE_take l (i + 1) h, if_pos rfl, s3]; simp
theorem st12 {l : List Edt} {n : Int} (i : Nat) (h : i < l.length) (hs : ∀ j (hj : j < l.length), j < i → St1 l n j hj) : St1 l n i h ↔ inR 0 (n - 1) l[i].tm = true ∧ St2 l i h := by
  rcases i with _ | i
  · constructor
    · rintro ⟨h1, h2, h3⟩
      exact ⟨h1, fun _ => by rw [h3]; simp [cntE], fun j hj e => by omega⟩
    · rintro ⟨h1, h2, h3⟩
      exact ⟨h1, fun j hj e => by omega, by rw [h2 rfl]; simp [cntE]⟩
  · obtain ⟨k1, k2⟩ := st1_inv (n := n) i (by omega) hs
    constructor
    · rintro ⟨h1, h2, h3⟩
      have h2 := cmpE_neg.1 (h2 i (by omega) rfl)
      refine ⟨h1, fun e => by omega, fun j hj e => ?_⟩
      have : j = i := by omega
      subst this
      rcases h2 with h2 | ⟨h2, h4⟩
      · exact .inl ⟨h2, by rw [h3, k1 _ h2]; simp⟩
      · refine .inr ⟨h2, ?_⟩; rw [h3, ← h2]; omega
    · rintro ⟨h1, h2, h3⟩
      have h3 := h3 i (by omega) rfl
      refine ⟨h1, fun j hj e => ?_, ?_⟩
      · have : j = i := by omega
        subst this
        rw [cmpE_neg]; omega
      · rcases h3 with ⟨h3, h4⟩ | ⟨h3, h4⟩
        · rw [k1 _ h3, h4]; simp
        · rw [← h3]; omega
theorem st_all {l : List Edt} {n : Int} : ∀ N, N ≤ l.length → ((∀ j (hj : j < l.length), j < N → St1 l n j hj) ↔ (∀ j (hj : j < l.length), j < N → inR 0 (n - 1) l[j].tm = true ∧ St2 l j hj))
  | 0, _ => by constructor <;> (intro _ j _ hj; omega)
  | N + 1, h => by
    have ih := st_all (l := l) (n := n) N (by omega)
    constructor
    · intro hs j hj hjn
      rcases Nat.lt_succ_iff_lt_or_eq.1 hjn with h1 | rfl
      · exact ih.1 (fun q hq hqn => hs q hq (by omega)) j hj h1
      · exact (st12 j hj (fun q hq hqn => hs q hq (by omega))).1 (hs j hj (by omega))
    · intro hs j hj hjn
      have ih2 := ih.2 (fun q hq hqn => hs q hq (by omega))
      rcases Nat.lt_succ_iff_lt_or_eq.1 hjn with h1 | rfl
      · exact ih2 j hj h1
      · exact (st12 j hj ih2).2 (hs j hj (by omega))
structure Hist (l : List Edt) (n : Int) : Prop where
  nn : inR 1 3 n = true
  len : l.length ≤ 24
  st : ∀ i (h : i < l.length), St1 l n i h
  fl : ∀ i (h : i < l.length), Fl l[i] n
  ck : ∀ i (h : i < l.length), ∀ t < l[i].ck.length, inR 0 (cntE l (t : Int)) (ckAt l[i].ck (t : Int)) = true
  pr : ∀ i (h : i < l.length), ∀ k (hk : k < l.length), precE l[k] l[i] = true → precE l[i] l[k] = false ∧ noGr l[k].ck l[i].ck = true
section
variable {l : List Edt} {n : Int} (hs : ∀ i (h : i < l.length), St1 l n i h)
include hs
theorem key_le (k : Nat) (h : k < l.length) : 1 ≤ l[k].ct ∧ l[k].ct ≤ cntE l l[k].tm := by
  have h1 := (hs k h).2.2
  have h2 := cntE_take l k h l[k].tm
  have h3 := cntE_all l l[k].tm (k + 1)
  rw [if_pos rfl] at h2
  omega
theorem key_ex (t : Int) : ∀ i, i ≤ l.length → ∀ m : Nat, 1 ≤ m → m ≤ cntE (l.take i) t → ∃ k, ∃ h : k < l.length, k < i ∧ l[k].tm = t ∧ l[k].ct = m
  | 0, _, m, h1, h2 => by simp [cntE] at h2; omega
  | i + 1, hi, m, h1, h2 => by
    rw [cntE_take l i (by omega)] at h2
    by_cases hm : m ≤ cntE (l.take i) t
    · obtain ⟨k, hk, h3, h4, h5⟩ := key_ex t i (by omega) m h1 hm
      exact ⟨k, hk, by omega, h4, h5⟩
    · by_cases ht : l[i].tm = t
      · rw [if_pos ht] at h2
        refine ⟨i, by omega, by omega, ht, ?_⟩
        rw [(hs i (by omega)).2.2, ht]; omega
      · rw [if_neg ht] at h2; omega
theorem key_lt {j k : Nat} (hj : j < l.length) (hk : k < l.length) (hjk : j < k) (ht : l[j].tm = l[k].tm) : l[j].ct < l[k].ct := by
  have h1 := (hs j hj).2.2
  have h2 := (hs k hk).2.2
  have h3 := cntE_take l j hj l[j].tm
  rw [if_pos rfl] at h3
  have h4 := cntE_mono l l[j].tm (show j + 1 ≤ k by omega)
  rw [← ht] at h2
  omega
theorem key_inj {j k : Nat} (hj : j < l.length) (hk : k < l.length) (ht : l[j].tm = l[k].tm) (hc : l[j].ct = l[k].ct) : j = k := by
  rcases Nat.lt_trichotomy j k with h | h | h
  · have := key_lt hs hj hk h ht; omega
  · exact h
  · have := key_lt hs hk hj h ht.symm; omega
theorem key_fnd {k : Nat} (hk : k < l.length) {t m : Int} (ht : l[k].tm = t) (hm : l[k].ct = m) : fndE l t m = (k : Int) := by
  unfold fndE idx
  cases h : l.findIdx? (keyE t m) with
  | none =>
    rw [List.findIdx?_eq_none_iff] at h
    have := h _ (List.getElem_mem hk)
    simp [keyE, ht, hm] at this
  | some j =>
    rw [List.findIdx?_eq_some_iff_getElem] at h
    obtain ⟨hj, h1, _⟩ := h
    simp only [keyE, Bool.and_eq_true, decide_eq_true_eq] at h1
    have := key_inj hs hj hk (by rw [h1.1, ht]) (by rw [h1.2, hm])
    subst this
    rfl
end
theorem fnd_key {l : List Edt} {t m : Int} {k : Nat} (hk : k < l.length) (h : fndE l t m = (k : Int)) : l[k].tm = t ∧ l[k].ct = m := by
  unfold fndE idx at h
  cases h2 : l.findIdx? (keyE t m) with
  | none => rw [h2] at h; simp at h
  | some j =>
    rw [h2] at h
    simp at h
    have h : j = k := by omega
    subst h
    rw [List.findIdx?_eq_some_iff_getElem] at h2
    obtain ⟨hj, h1, _⟩ := h2
    simpa [keyE] using h1
theorem precE_iff {a b : Edt} : precE a b = true ↔ ¬ (a.tm = b.tm ∧ a.ct = b.ct) ∧ (0 ≤ a.tm ∧ a.tm ≤ (b.ck.length : Int) - 1) ∧ a.ct ≤ ckAt b.ck a.tm := by
  unfold precE
  simp only [Bool.and_eq_true, Bool.not_eq_true', Bool.and_eq_false_iff, decide_eq_true_eq, decide_eq_false_iff_not, inR_iff]
  constructor
  · rintro ⟨⟨h1, h2⟩, h3⟩; exact ⟨by omega, h2, h3⟩
  · rintro ⟨h1, h2, h3⟩; exact ⟨⟨by omega, h2⟩, h3⟩
theorem noGr_self (a : List Int) : noGr a a = true := noGr_iff.2 fun i _ => Int.le_refl _
theorem kn_iff {l : List Edt} {n : Int} (hs : ∀ i (h : i < l.length), St1 l n i h) (hf : ∀ i (h : i < l.length), Fl l[i] n) (i : Nat) (h : i < l.length) :
    Kn l l[i] ↔ (∀ t < l[i].ck.length, inR 0 (cntE l (t : Int)) (ckAt l[i].ck (t : Int)) = true) ∧ ∀ k (hk : k < l.length), precE l[k] l[i] = true → precE l[i] l[k] = false ∧ noGr l[k].ck l[i].ck = true := by
  have hlen : ∀ k (hk : k < l.length), l[k].ck.length = l[i].ck.length := fun k hk => by have := (hf k hk).1; have := (hf i h).1; omega
  constructor
  · intro hk
    refine ⟨fun t ht => ?_, fun k hkl hp => ?_⟩
    · obtain ⟨h1, h2⟩ := hk t ht
      have h1 := inR_iff.1 h1
      rw [inR_iff]
      refine ⟨h1.1, ?_⟩
      rcases Int.lt_or_le 0 (ckAt l[i].ck (t : Int)) with h3 | h3
      · obtain ⟨k, hkl, h4, _⟩ := h2 (ckAt l[i].ck (t : Int)).toNat (by omega) (by omega)
        obtain ⟨h5, h6⟩ := fnd_key hkl h4
        have := (key_le hs k hkl).2
        rw [h5] at this
        omega
      · omega
    · obtain ⟨p1, ⟨p2, p3⟩, p4⟩ := precE_iff.1 hp
      have hct := (key_le hs k hkl).1
      obtain ⟨h1, h2⟩ := hk l[k].tm.toNat (by omega)
      have e1 : ((l[k].tm.toNat : Nat) : Int) = l[k].tm := by omega
      have e2 : ((l[k].ct.toNat : Nat) : Int) = l[k].ct := by omega
      obtain ⟨k', hkl', h4, h5, h6⟩ := h2 l[k].ct.toNat (by omega) (by rw [e1, e2]; exact p4)
      rw [e1, e2] at h4 h5
      have := key_fnd hs hkl rfl rfl
      rw [h4] at this
      have : k' = k := by omega
      subst this
      refine ⟨?_, h6⟩
      rw [Bool.eq_false_iff]
      intro hq
      obtain ⟨q1, q2, q3⟩ := precE_iff.1 hq
      exact h5 ⟨by omega, q3⟩
  · rintro ⟨hc, hp⟩ t ht
    have h1 := inR_iff.1 (hc t ht)
    refine ⟨inR_iff.2 ⟨h1.1, by have := cntE_le l t; omega⟩, fun m m1 m2 => ?_⟩
    obtain ⟨k, hkl, _, k1, k2⟩ := key_ex hs (t : Int) l.length (Nat.le_refl _) m m1 (by rw [List.take_length]; omega)
    have hR := inR_iff.1 (hs i h).1
    have hL := (hf i h).1
    refine ⟨k, hkl, key_fnd hs hkl k1 k2, ?_, ?_⟩
    · rintro ⟨h2, h3⟩
      have hq : precE l[k] l[i] = true := precE_iff.2 ⟨by rw [k1, k2]; omega, by rw [k1]; omega, by rw [k1, k2]; exact m2⟩
      have := (hp k hkl hq).1
      have h4 : precE l[i] l[k] = true := precE_iff.2 ⟨by rw [k1, k2]; omega, by rw [hlen k hkl]; omega, h3⟩
      rw [h4] at this; cases this
    · by_cases he : l[k].tm = l[i].tm ∧ l[k].ct = l[i].ct
      · have := key_inj hs hkl h he.1 he.2
        subst this
        exact noGr_self _
      · exact (hp k hkl (precE_iff.2 ⟨he, by rw [k1]; omega, by rw [k1, k2]; exact m2⟩)).2
structure HistS (l : List Edt) (n : Int) : Prop where
  nn : inR 1 3 n = true
  len : l.length ≤ 24
  st : ∀ i (h : i < l.length), fldE l[i] n = true ∧ St2 l i h
  kn : ∀ i (h : i < l.length), Kn l l[i]
theorem fldE_iff {e : Edt} {n : Int} : fldE e n = true ↔ inR 0 (n - 1) e.tm = true ∧ Fl e n := by
  simp only [fldE, Fl, Bool.and_eq_true, decide_eq_true_eq]
  constructor
  · rintro ⟨⟨⟨⟨h1, h2⟩, h3⟩, h4⟩, h5⟩; exact ⟨h1, h2, h3, h4, h5⟩
  · rintro ⟨h1, h2, h3, h4, h5⟩; exact ⟨⟨⟨⟨h1, h2⟩, h3⟩, h4⟩, h5⟩
theorem hist_iff {l : List Edt} {n : Int} : Hist l n ↔ HistS l n := by
  constructor
  · intro h
    have hs := (st_all (l := l) (n := n) l.length (Nat.le_refl _)).1 (fun j hj _ => h.st j hj)
    exact ⟨h.nn, h.len, fun i hi => ⟨fldE_iff.2 ⟨(hs i hi hi).1, h.fl i hi⟩, (hs i hi hi).2⟩, fun i hi => (kn_iff h.st h.fl i hi).2 ⟨h.ck i hi, h.pr i hi⟩⟩
  · intro h
    have hs := (st_all (l := l) (n := n) l.length (Nat.le_refl _)).2 (fun j hj _ => ⟨(fldE_iff.1 (h.st j hj).1).1, (h.st j hj).2⟩)
    have hf : ∀ i (hi : i < l.length), Fl l[i] n := fun i hi => (fldE_iff.1 (h.st i hi).1).2
    have hk := fun i hi => (kn_iff (fun i hi => hs i hi hi) hf i hi).1 (h.kn i hi)
    exact ⟨h.nn, h.len, fun i hi => hs i hi hi, hf, fun i hi => (hk i hi).1, fun i hi => (hk i hi).2⟩
end Go.Proofs.Ytbofobjofngoeaa.EngS


set_option linter.unusedSimpArgs false
set_option linter.unusedVariables false
set_option maxHeartbeats 4000000
set_option maxRecDepth 100000
namespace Go.Proofs.Ytbofobjofngoeaa.EngS
open Go Go.Proofs Go.Eng Go.RowKit
attribute [local irreducible] Go.RowKit.wrap64
noncomputable def hist (l : List Edt) (n : Int) : Bool := @decide (Hist l n) (Classical.propDecidable _)
theorem hist_iff' {l n} : hist l n = true ↔ Hist l n := by unfold hist; exact @decide_eq_true_iff _ (Classical.propDecidable _)
theorem hist_no {l n} (h : ¬ Hist l n) : hist l n = false := by rw [Bool.eq_false_iff]; exact fun hb => h (hist_iff'.1 hb)
def Gd1Q (l : List Edt) (n : Int) (i : Nat) (h : i < l.length) (e : Exit) (st : St) : Prop :=
  (e = .ret ∧ ¬ (fldE l[i] n = true ∧ St2 l i h) ∧ FinP T Try.f74.results.toList [.v (.sl true 5 (edts true l)), int n] [.x, .x] [boo false] st) ∨
  (e = .normal ∧ (fldE l[i] n = true ∧ St2 l i h) ∧ LessL st [(0, .c (.sl true 5 (edts true l))), (1, .c (.sc (.int .i64 n))), (5, .c (.sc (.int .i64 ((i + 1 : Nat) : Int))))] [])
theorem w_gd1a (l : List Edt) (n : Int) (i : Nat) (h : i < l.length) (hl : l.length ≤ 24) (h1 : 1 ≤ n) (h3 : n ≤ 3) (hW : EdtW l[i]) (hf : fldE l[i] n = false) : AW Try.prog 90 (cAt Try.f74 [2, 2, 1, 2, 5, 7]) (mk [(0, .c (.sl true 5 (edts true l))), (1, .c (.sc (.int .i64 n))), (5, .c (.sc (.int .i64 (i : Int))))] []) (Gd1Q l n i h) := by
  have e1 : wrap64 ((i : Int) + 1) = ((i + 1 : Nat) : Int) := by rw [w64 (by omega) (by omega)]; omega
  have cf := c_spec_l22Fields l[i] n hW h1 h3
  have hb : Hd (¬ (fldE l[i] n = true ∧ St2 l i h)) := fun hh => by rw [hf] at hh; cases hh.1
  rw [hf] at cf
  clear hf
  repeat' (first | with_reducible refine OutOK.done ?_ | refine thenQ_n ?_ | refine thenQ_r ?_ | refine thenQ_e ?_ | refine AW.seq ?_ | refine AW.dreg tok mixed [10]  [(0, false), (1, false), (2, false), (3, false), (4, false), (5, false), (6, false), (7, false), (9, false), (8, false), (10, true), (11, false), (12, false), (13, false)] (by decide +kernel) rfl (by simp [*]; rfl) ?_ | refine AW.dreg tok mixed [17, 28]  [(0, false), (1, false), (2, false), (3, false), (4, false), (5, false), (6, false), (7, false), (8, false), (9, false), (10, false), (11, false), (12, false), (13, false), (14, false), (16, false), (15, false), (17, true), (18, false), (19, false), (20, false), (21, false), (22, false), (23, false), (24, false), (27, false), (25, false), (26, false), (28, true), (29, false), (30, false), (31, false), (32, false)] (by decide +kernel) rfl (by simp [*]; rfl) ?_ | refine AW.reg tok (by simp [*]; rfl) ?_ | refine AW.ifB (by simp [*]; rfl) ?_ | refine IfG.t ?_ | refine IfG.f ?_ | (refine IfG.p (fun hg => ?_) (fun hg => ?_) <;> (try (have hg' := hg; simp at hg'))) | (refine IfG.n (fun hg => ?_) (fun hg => ?_) <;> (try (have hg' := hg; simp at hg'))) | (refine OutOK.gateP (fun hg => ?_) (fun hg => ?_) <;> (try (have hg' := hg; simp at hg'))) | (refine OutOK.gateN (fun hg => ?_) (fun hg => ?_) <;> (try (have hg' := hg; simp at hg'))) | (refine IfG.g (fun hg => ?_) (fun hg => ?_) <;> (try (have hg' := hg; simp at hg'))) | (refine OutOK.gate (fun hg => ?_) (fun hg => ?_) <;> (try (have hg' := hg; simp at hg'))) | (refine OutOK.callF [] (by simp [*]; rfl) (by simp [*]; rfl) (by simp [*]; rfl) hb117 (by apply cf <;> first | assumption | exact Hd.out (by assumption) | ((try (clear e0)); (try (clear e1)); (try (clear e2)); (try (clear e3)); (try (clear e4)); (try (clear e5)); (try (clear e6)); (try (clear e7)); (try (clear e8)); (try (clear e9)); (try (clear e10)); (try (clear e11)); omega)) ⟨by simp [*], by simp [*], by simp [*], by simp [*], by simp [*]⟩ (by simp [*]) (by simp [*]; rfl) ?_) | refine OutOK.run (by simp [*]; rfl) ?_ | refine AW.ret ?_ | refine AW.skip ?_ | refine AW.exit ?_ | refine fin_r ?_ | refine fin_n ?_ | refine AW.block ?_ | refine blockQ_n ?_ | refine blockQ_r ?_ | refine blockQ_e ?_ | refine blockQ_o rfl ?_)
  exact .inl ⟨rfl, hb.out, by simp [Try.f74]⟩
theorem w_gd1b (l : List Edt) (n : Int) (i : Nat) (h : i < l.length) (hl : l.length ≤ 24) (h1 : 1 ≤ n) (h3 : n ≤ 3) (hW : EdtW l[i]) (h0 : i = 0) (hf : fldE l[i] n = true) (hc : l[i].ct = 1) : AW Try.prog 90 (cAt Try.f74 [2, 2, 1, 2, 5, 7]) (mk [(0, .c (.sl true 5 (edts true l))), (1, .c (.sc (.int .i64 n))), (5, .c (.sc (.int .i64 (i : Int))))] []) (Gd1Q l n i h) := by
  have e1 : wrap64 ((i : Int) + 1) = ((i + 1 : Nat) : Int) := by rw [w64 (by omega) (by omega)]; omega
  have cf := c_spec_l22Fields l[i] n hW h1 h3
  have hz : (i = 0) = True := by simp [h0]
  have hb : Hd (fldE l[i] n = true ∧ St2 l i h) := ⟨hf, fun _ => hc, fun j hj e => by omega⟩
  obtain ⟨tm, ct, ck, it, tx, he⟩ : ∃ tm ct ck it tx, l[i] = ⟨tm, ct, ck, it, tx⟩ := ⟨_, _, _, _, _, rfl⟩
  rw [he] at cf hf hc
  simp only at hc
  rw [hf] at cf
  clear hf
  clear h0 hW
  subst hc
  repeat' (first | with_reducible refine OutOK.done ?_ | refine thenQ_n ?_ | refine thenQ_r ?_ | refine thenQ_e ?_ | refine AW.seq ?_ | refine AW.dreg tok mixed [10]  [(0, false), (1, false), (2, false), (3, false), (4, false), (5, false), (6, false), (7, false), (9, false), (8, false), (10, true), (11, false), (12, false), (13, false)] (by decide +kernel) rfl (by simp [*]; rfl) ?_ | refine AW.dreg tok mixed [17, 28]  [(0, false), (1, false), (2, false), (3, false), (4, false), (5, false), (6, false), (7, false), (8, false), (9, false), (10, false), (11, false), (12, false), (13, false), (14, false), (16, false), (15, false), (17, true), (18, false), (19, false), (20, false), (21, false), (22, false), (23, false), (24, false), (27, false), (25, false), (26, false), (28, true), (29, false), (30, false), (31, false), (32, false)] (by decide +kernel) rfl (by simp [*]; rfl) ?_ | refine AW.reg tok (by simp [*]; rfl) ?_ | refine AW.ifB (by simp [*]; rfl) ?_ | refine IfG.t ?_ | refine IfG.f ?_ | (refine IfG.p (fun hg => ?_) (fun hg => ?_) <;> (try (have hg' := hg; simp at hg'))) | (refine IfG.n (fun hg => ?_) (fun hg => ?_) <;> (try (have hg' := hg; simp at hg'))) | (refine OutOK.gateP (fun hg => ?_) (fun hg => ?_) <;> (try (have hg' := hg; simp at hg'))) | (refine OutOK.gateN (fun hg => ?_) (fun hg => ?_) <;> (try (have hg' := hg; simp at hg'))) | (refine IfG.g (fun hg => ?_) (fun hg => ?_) <;> (try (have hg' := hg; simp at hg'))) | (refine OutOK.gate (fun hg => ?_) (fun hg => ?_) <;> (try (have hg' := hg; simp at hg'))) | (refine OutOK.callF [] (by simp [*]; rfl) (by simp [*]; rfl) (by simp [*]; rfl) hb117 (by apply cf <;> first | assumption | exact Hd.out (by assumption) | ((try (clear e0)); (try (clear e1)); (try (clear e2)); (try (clear e3)); (try (clear e4)); (try (clear e5)); (try (clear e6)); (try (clear e7)); (try (clear e8)); (try (clear e9)); (try (clear e10)); (try (clear e11)); omega)) ⟨by simp [*], by simp [*], by simp [*], by simp [*], by simp [*]⟩ (by simp [*]) (by simp [*]; rfl) ?_) | refine OutOK.run (by simp [*]; rfl) ?_ | refine AW.ret ?_ | refine AW.skip ?_ | refine AW.exit ?_ | refine fin_r ?_ | refine fin_n ?_ | refine AW.block ?_ | refine blockQ_n ?_ | refine blockQ_r ?_ | refine blockQ_e ?_ | refine blockQ_o rfl ?_)
  exact .inr ⟨rfl, hb.out, by simp, by simp, by simp⟩
theorem w_gd1c (l : List Edt) (n : Int) (i : Nat) (h : i < l.length) (hl : l.length ≤ 24) (h1 : 1 ≤ n) (h3 : n ≤ 3) (hW : EdtW l[i]) (h0 : i = 0) (hf : fldE l[i] n = true) (hc : ¬ l[i].ct = 1) : AW Try.prog 90 (cAt Try.f74 [2, 2, 1, 2, 5, 7]) (mk [(0, .c (.sl true 5 (edts true l))), (1, .c (.sc (.int .i64 n))), (5, .c (.sc (.int .i64 (i : Int))))] []) (Gd1Q l n i h) := by
  have e1 : wrap64 ((i : Int) + 1) = ((i + 1 : Nat) : Int) := by rw [w64 (by omega) (by omega)]; omega
  have cf := c_spec_l22Fields l[i] n hW h1 h3
  have hz : (i = 0) = True := by simp [h0]
  have hb : Hd (¬ (fldE l[i] n = true ∧ St2 l i h)) := fun hh => hc (hh.2.1 h0)
  obtain ⟨tm, ct, ck, it, tx, he⟩ : ∃ tm ct ck it tx, l[i] = ⟨tm, ct, ck, it, tx⟩ := ⟨_, _, _, _, _, rfl⟩
  rw [he] at cf hf hc
  simp only at hc
  rw [hf] at cf
  clear hf
  clear h0 hW
  repeat' (first | with_reducible refine OutOK.done ?_ | refine thenQ_n ?_ | refine thenQ_r ?_ | refine thenQ_e ?_ | refine AW.seq ?_ | refine AW.dreg tok mixed [10]  [(0, false), (1, false), (2, false), (3, false), (4, false), (5, false), (6, false), (7, false), (9, false), (8, false), (10, true), (11, false), (12, false), (13, false)] (by decide +kernel) rfl (by simp [*]; rfl) ?_ | refine AW.dreg tok mixed [17, 28]  [(0, false), (1, false), (2, false), (3, false), (4, false), (5, false), (6, false), (7, false), (8, false), (9, false), (10, false), (11, false), (12, false), (13, false), (14, false), (16, false), (15, false), (17, true), (18, false), (19, false), (20, false), (21, false), (22, false), (23, false), (24, false), (27, false), (25, false), (26, false), (28, true), (29, false), (30, false), (31, false), (32, false)] (by decide +kernel) rfl (by simp [*]; rfl) ?_ | refine AW.reg tok (by simp [*]; rfl) ?_ | refine AW.ifB (by simp [*]; rfl) ?_ | refine IfG.t ?_ | refine IfG.f ?_ | (refine IfG.p (fun hg => ?_) (fun hg => ?_) <;> (try (have hg' := hg; simp at hg'))) | (refine IfG.n (fun hg => ?_) (fun hg => ?_) <;> (try (have hg' := hg; simp at hg'))) | (refine OutOK.gateP (fun hg => ?_) (fun hg => ?_) <;> (try (have hg' := hg; simp at hg'))) | (refine OutOK.gateN (fun hg => ?_) (fun hg => ?_) <;> (try (have hg' := hg; simp at hg'))) | (refine IfG.g (fun hg => ?_) (fun hg => ?_) <;> (try (have hg' := hg; simp at hg'))) | (refine OutOK.gate (fun hg => ?_) (fun hg => ?_) <;> (try (have hg' := hg; simp at hg'))) | (refine OutOK.callF [] (by simp [*]; rfl) (by simp [*]; rfl) (by simp [*]; rfl) hb117 (by apply cf <;> first | assumption | exact Hd.out (by assumption) | ((try (clear e0)); (try (clear e1)); (try (clear e2)); (try (clear e3)); (try (clear e4)); (try (clear e5)); (try (clear e6)); (try (clear e7)); (try (clear e8)); (try (clear e9)); (try (clear e10)); (try (clear e11)); omega)) ⟨by simp [*], by simp [*], by simp [*], by simp [*], by simp [*]⟩ (by simp [*]) (by simp [*]; rfl) ?_) | refine OutOK.run (by simp [*]; rfl) ?_ | refine AW.ret ?_ | refine AW.skip ?_ | refine AW.exit ?_ | refine fin_r ?_ | refine fin_n ?_ | refine AW.block ?_ | refine blockQ_n ?_ | refine blockQ_r ?_ | refine blockQ_e ?_ | refine blockQ_o rfl ?_)
  exact .inl ⟨rfl, hb.out, by simp [Try.f74]⟩
theorem w_gd1d (l : List Edt) (n : Int) (i : Nat) (h : i < l.length) (hl : l.length ≤ 24) (h1 : 1 ≤ n) (h3 : n ≤ 3) (hW : EdtW l[i]) (j : Nat) (hj : j < l.length) (hI : i = j + 1) (hf : fldE l[i] n = true) (hct : -100 ≤ l[j].ct ∧ l[j].ct ≤ 100) (hc : l[j].tm < l[i].tm) (hc2 : l[i].ct = 1) : AW Try.prog 90 (cAt Try.f74 [2, 2, 1, 2, 5, 7]) (mk [(0, .c (.sl true 5 (edts true l))), (1, .c (.sc (.int .i64 n))), (5, .c (.sc (.int .i64 (i : Int))))] []) (Gd1Q l n i h) := by
  have e1 : wrap64 ((i : Int) + 1) = ((i + 1 : Nat) : Int) := by rw [w64 (by omega) (by omega)]; omega
  have e2 : wrap64 ((i : Int) - 1) = (j : Int) := by rw [w64 (by omega) (by omega)]; omega
  have cf := c_spec_l22Fields l[i] n hW h1 h3
  have hb : Hd (fldE l[i] n = true ∧ St2 l i h) := by
    refine ⟨hf, fun e => by omega, fun q hq e => ?_⟩
    have : q = j := by omega
    subst this
    exact .inl ⟨hc, hc2⟩
  obtain ⟨c1, hc1⟩ : ∃ c1, l[j].ct + 1 = c1 := ⟨_, rfl⟩
  have e3 : wrap64 (l[j].ct + 1) = c1 := by rw [w64 (by omega) (by omega)]; exact hc1
  have hIz : ¬ i = 0 := by omega
  obtain ⟨tm, ct, ck, it, tx, he⟩ : ∃ tm ct ck it tx, l[i] = ⟨tm, ct, ck, it, tx⟩ := ⟨_, _, _, _, _, rfl⟩
  rw [he] at cf hf hc hc2
  simp only at hc hc2
  rw [hf] at cf
  clear hf
  clear hW hc1 hct hI
  subst hc2
  repeat' (first | with_reducible refine OutOK.done ?_ | refine thenQ_n ?_ | refine thenQ_r ?_ | refine thenQ_e ?_ | refine AW.seq ?_ | refine AW.dreg tok mixed [10]  [(0, false), (1, false), (2, false), (3, false), (4, false), (5, false), (6, false), (7, false), (9, false), (8, false), (10, true), (11, false), (12, false), (13, false)] (by decide +kernel) rfl (by simp [*]; rfl) ?_ | refine AW.dreg tok mixed [17, 28]  [(0, false), (1, false), (2, false), (3, false), (4, false), (5, false), (6, false), (7, false), (8, false), (9, false), (10, false), (11, false), (12, false), (13, false), (14, false), (16, false), (15, false), (17, true), (18, false), (19, false), (20, false), (21, false), (22, false), (23, false), (24, false), (27, false), (25, false), (26, false), (28, true), (29, false), (30, false), (31, false), (32, false)] (by decide +kernel) rfl (by simp [*]; rfl) ?_ | refine AW.reg tok (by simp [*]; rfl) ?_ | refine AW.ifB (by simp [*]; rfl) ?_ | refine IfG.t ?_ | refine IfG.f ?_ | (refine IfG.p (fun hg => ?_) (fun hg => ?_) <;> (try (have hg' := hg; simp at hg'))) | (refine IfG.n (fun hg => ?_) (fun hg => ?_) <;> (try (have hg' := hg; simp at hg'))) | (refine OutOK.gateP (fun hg => ?_) (fun hg => ?_) <;> (try (have hg' := hg; simp at hg'))) | (refine OutOK.gateN (fun hg => ?_) (fun hg => ?_) <;> (try (have hg' := hg; simp at hg'))) | (refine IfG.g (fun hg => ?_) (fun hg => ?_) <;> (try (have hg' := hg; simp at hg'))) | (refine OutOK.gate (fun hg => ?_) (fun hg => ?_) <;> (try (have hg' := hg; simp at hg'))) | (refine OutOK.callF [] (by simp [*]; rfl) (by simp [*]; rfl) (by simp [*]; rfl) hb117 (by apply cf <;> first | assumption | exact Hd.out (by assumption) | ((try (clear e0)); (try (clear e1)); (try (clear e2)); (try (clear e3)); (try (clear e4)); (try (clear e5)); (try (clear e6)); (try (clear e7)); (try (clear e8)); (try (clear e9)); (try (clear e10)); (try (clear e11)); omega)) ⟨by simp [*], by simp [*], by simp [*], by simp [*], by simp [*]⟩ (by simp [*]) (by simp [*]; rfl) ?_) | refine OutOK.run (by simp [*]; rfl) ?_ | refine AW.ret ?_ | refine AW.skip ?_ | refine AW.exit ?_ | refine fin_r ?_ | refine fin_n ?_ | refine AW.block ?_ | refine blockQ_n ?_ | refine blockQ_r ?_ | refine blockQ_e ?_ | refine blockQ_o rfl ?_)
  exact .inr ⟨rfl, hb.out, by simp, by simp, by simp⟩
theorem w_gd1e (l : List Edt) (n : Int) (i : Nat) (h : i < l.length) (hl : l.length ≤ 24) (h1 : 1 ≤ n) (h3 : n ≤ 3) (hW : EdtW l[i]) (j : Nat) (hj : j < l.length) (hI : i = j + 1) (hf : fldE l[i] n = true) (hct : -100 ≤ l[j].ct ∧ l[j].ct ≤ 100) (hc : l[j].tm < l[i].tm) (hc2 : ¬ l[i].ct = 1) : AW Try.prog 90 (cAt Try.f74 [2, 2, 1, 2, 5, 7]) (mk [(0, .c (.sl true 5 (edts true l))), (1, .c (.sc (.int .i64 n))), (5, .c (.sc (.int .i64 (i : Int))))] []) (Gd1Q l n i h) := by
  have e1 : wrap64 ((i : Int) + 1) = ((i + 1 : Nat) : Int) := by rw [w64 (by omega) (by omega)]; omega
  have e2 : wrap64 ((i : Int) - 1) = (j : Int) := by rw [w64 (by omega) (by omega)]; omega
  have cf := c_spec_l22Fields l[i] n hW h1 h3
  have hb : Hd (¬ (fldE l[i] n = true ∧ St2 l i h)) := fun hh => by have := hh.2.2 j hj hI; omega
  obtain ⟨c1, hc1⟩ : ∃ c1, l[j].ct + 1 = c1 := ⟨_, rfl⟩
  have e3 : wrap64 (l[j].ct + 1) = c1 := by rw [w64 (by omega) (by omega)]; exact hc1
  have hIz : ¬ i = 0 := by omega
  obtain ⟨tm, ct, ck, it, tx, he⟩ : ∃ tm ct ck it tx, l[i] = ⟨tm, ct, ck, it, tx⟩ := ⟨_, _, _, _, _, rfl⟩
  rw [he] at cf hf hc hc2
  simp only at hc hc2
  rw [hf] at cf
  clear hf
  clear hW hc1 hct hI
  repeat' (first | with_reducible refine OutOK.done ?_ | refine thenQ_n ?_ | refine thenQ_r ?_ | refine thenQ_e ?_ | refine AW.seq ?_ | refine AW.dreg tok mixed [10]  [(0, false), (1, false), (2, false), (3, false), (4, false), (5, false), (6, false), (7, false), (9, false), (8, false), (10, true), (11, false), (12, false), (13, false)] (by decide +kernel) rfl (by simp [*]; rfl) ?_ | refine AW.dreg tok mixed [17, 28]  [(0, false), (1, false), (2, false), (3, false), (4, false), (5, false), (6, false), (7, false), (8, false), (9, false), (10, false), (11, false), (12, false), (13, false), (14, false), (16, false), (15, false), (17, true), (18, false), (19, false), (20, false), (21, false), (22, false), (23, false), (24, false), (27, false), (25, false), (26, false), (28, true), (29, false), (30, false), (31, false), (32, false)] (by decide +kernel) rfl (by simp [*]; rfl) ?_ | refine AW.reg tok (by simp [*]; rfl) ?_ | refine AW.ifB (by simp [*]; rfl) ?_ | refine IfG.t ?_ | refine IfG.f ?_ | (refine IfG.p (fun hg => ?_) (fun hg => ?_) <;> (try (have hg' := hg; simp at hg'))) | (refine IfG.n (fun hg => ?_) (fun hg => ?_) <;> (try (have hg' := hg; simp at hg'))) | (refine OutOK.gateP (fun hg => ?_) (fun hg => ?_) <;> (try (have hg' := hg; simp at hg'))) | (refine OutOK.gateN (fun hg => ?_) (fun hg => ?_) <;> (try (have hg' := hg; simp at hg'))) | (refine IfG.g (fun hg => ?_) (fun hg => ?_) <;> (try (have hg' := hg; simp at hg'))) | (refine OutOK.gate (fun hg => ?_) (fun hg => ?_) <;> (try (have hg' := hg; simp at hg'))) | (refine OutOK.callF [] (by simp [*]; rfl) (by simp [*]; rfl) (by simp [*]; rfl) hb117 (by apply cf <;> first | assumption | exact Hd.out (by assumption) | ((try (clear e0)); (try (clear e1)); (try (clear e2)); (try (clear e3)); (try (clear e4)); (try (clear e5)); (try (clear e6)); (try (clear e7)); (try (clear e8)); (try (clear e9)); (try (clear e10)); (try (clear e11)); omega)) ⟨by simp [*], by simp [*], by simp [*], by simp [*], by simp [*]⟩ (by simp [*]) (by simp [*]; rfl) ?_) | refine OutOK.run (by simp [*]; rfl) ?_ | refine AW.ret ?_ | refine AW.skip ?_ | refine AW.exit ?_ | refine fin_r ?_ | refine fin_n ?_ | refine AW.block ?_ | refine blockQ_n ?_ | refine blockQ_r ?_ | refine blockQ_e ?_ | refine blockQ_o rfl ?_)
  exact .inl ⟨rfl, hb.out, by simp [Try.f74]⟩
theorem w_gd1f (l : List Edt) (n : Int) (i : Nat) (h : i < l.length) (hl : l.length ≤ 24) (h1 : 1 ≤ n) (h3 : n ≤ 3) (hW : EdtW l[i]) (j : Nat) (hj : j < l.length) (hI : i = j + 1) (hf : fldE l[i] n = true) (hct : -100 ≤ l[j].ct ∧ l[j].ct ≤ 100) (hc : ¬ l[j].tm < l[i].tm) (hc2 : ¬ l[j].tm = l[i].tm) : AW Try.prog 90 (cAt Try.f74 [2, 2, 1, 2, 5, 7]) (mk [(0, .c (.sl true 5 (edts true l))), (1, .c (.sc (.int .i64 n))), (5, .c (.sc (.int .i64 (i : Int))))] []) (Gd1Q l n i h) := by
  have e1 : wrap64 ((i : Int) + 1) = ((i + 1 : Nat) : Int) := by rw [w64 (by omega) (by omega)]; omega
  have e2 : wrap64 ((i : Int) - 1) = (j : Int) := by rw [w64 (by omega) (by omega)]; omega
  have cf := c_spec_l22Fields l[i] n hW h1 h3
  have hb : Hd (¬ (fldE l[i] n = true ∧ St2 l i h)) := fun hh => by have := hh.2.2 j hj hI; omega
  obtain ⟨c1, hc1⟩ : ∃ c1, l[j].ct + 1 = c1 := ⟨_, rfl⟩
  have e3 : wrap64 (l[j].ct + 1) = c1 := by rw [w64 (by omega) (by omega)]; exact hc1
  have hIz : ¬ i = 0 := by omega
  obtain ⟨tm, ct, ck, it, tx, he⟩ : ∃ tm ct ck it tx, l[i] = ⟨tm, ct, ck, it, tx⟩ := ⟨_, _, _, _, _, rfl⟩
  rw [he] at cf hf hc hc2
  simp only at hc hc2
  rw [hf] at cf
  clear hf
  clear hW hc1 hct hI
  repeat' (first | with_reducible refine OutOK.done ?_ | refine thenQ_n ?_ | refine thenQ_r ?_ | refine thenQ_e ?_ | refine AW.seq ?_ | refine AW.dreg tok mixed [10]  [(0, false), (1, false), (2, false), (3, false), (4, false), (5, false), (6, false), (7, false), (9, false), (8, false), (10, true), (11, false), (12, false), (13, false)] (by decide +kernel) rfl (by simp [*]; rfl) ?_ | refine AW.dreg tok mixed [17, 28]  [(0, false), (1, false), (2, false), (3, false), (4, false), (5, false), (6, false), (7, false), (8, false), (9, false), (10, false), (11, false), (12, false), (13, false), (14, false), (16, false), (15, false), (17, true), (18, false), (19, false), (20, false), (21, false), (22, false), (23, false), (24, false), (27, false), (25, false), (26, false), (28, true), (29, false), (30, false), (31, false), (32, false)] (by decide +kernel) rfl (by simp [*]; rfl) ?_ | refine AW.reg tok (by simp [*]; rfl) ?_ | refine AW.ifB (by simp [*]; rfl) ?_ | refine IfG.t ?_ | refine IfG.f ?_ | (refine IfG.p (fun hg => ?_) (fun hg => ?_) <;> (try (have hg' := hg; simp at hg'))) | (refine IfG.n (fun hg => ?_) (fun hg => ?_) <;> (try (have hg' := hg; simp at hg'))) | (refine OutOK.gateP (fun hg => ?_) (fun hg => ?_) <;> (try (have hg' := hg; simp at hg'))) | (refine OutOK.gateN (fun hg => ?_) (fun hg => ?_) <;> (try (have hg' := hg; simp at hg'))) | (refine IfG.g (fun hg => ?_) (fun hg => ?_) <;> (try (have hg' := hg; simp at hg'))) | (refine OutOK.gate (fun hg => ?_) (fun hg => ?_) <;> (try (have hg' := hg; simp at hg'))) | (refine OutOK.callF [] (by simp [*]; rfl) (by simp [*]; rfl) (by simp [*]; rfl) hb117 (by apply cf <;> first | assumption | exact Hd.out (by assumption) | ((try (clear e0)); (try (clear e1)); (try (clear e2)); (try (clear e3)); (try (clear e4)); (try (clear e5)); (try (clear e6)); (try (clear e7)); (try (clear e8)); (try (clear e9)); (try (clear e10)); (try (clear e11)); omega)) ⟨by simp [*], by simp [*], by simp [*], by simp [*], by simp [*]⟩ (by simp [*]) (by simp [*]; rfl) ?_) | refine OutOK.run (by simp [*]; rfl) ?_ | refine AW.ret ?_ | refine AW.skip ?_ | refine AW.exit ?_ | refine fin_r ?_ | refine fin_n ?_ | refine AW.block ?_ | refine blockQ_n ?_ | refine blockQ_r ?_ | refine blockQ_e ?_ | refine blockQ_o rfl ?_)
  exact .inl ⟨rfl, hb.out, by simp [Try.f74]⟩
theorem w_gd1g (l : List Edt) (n : Int) (i : Nat) (h : i < l.length) (hl : l.length ≤ 24) (h1 : 1 ≤ n) (h3 : n ≤ 3) (hW : EdtW l[i]) (j : Nat) (hj : j < l.length) (hI : i = j + 1) (hf : fldE l[i] n = true) (hct : -100 ≤ l[j].ct ∧ l[j].ct ≤ 100) (hc : ¬ l[j].tm < l[i].tm) (hc2 : l[j].tm = l[i].tm) (hc3 : l[j].ct + 1 = l[i].ct) : AW Try.prog 90 (cAt Try.f74 [2, 2, 1, 2, 5, 7]) (mk [(0, .c (.sl true 5 (edts true l))), (1, .c (.sc (.int .i64 n))), (5, .c (.sc (.int .i64 (i : Int))))] []) (Gd1Q l n i h) := by
  have e1 : wrap64 ((i : Int) + 1) = ((i + 1 : Nat) : Int) := by rw [w64 (by omega) (by omega)]; omega
  have e2 : wrap64 ((i : Int) - 1) = (j : Int) := by rw [w64 (by omega) (by omega)]; omega
  have cf := c_spec_l22Fields l[i] n hW h1 h3
  have hb : Hd (fldE l[i] n = true ∧ St2 l i h) := by
    refine ⟨hf, fun e => by omega, fun q hq e => ?_⟩
    have : q = j := by omega
    subst this
    exact .inr ⟨hc2, hc3⟩
  obtain ⟨c1, hc1⟩ : ∃ c1, l[j].ct + 1 = c1 := ⟨_, rfl⟩
  have e3 : wrap64 (l[j].ct + 1) = c1 := by rw [w64 (by omega) (by omega)]; exact hc1
  have hIz : ¬ i = 0 := by omega
  rw [hc1] at hc3
  obtain ⟨tm, ct, ck, it, tx, he⟩ : ∃ tm ct ck it tx, l[i] = ⟨tm, ct, ck, it, tx⟩ := ⟨_, _, _, _, _, rfl⟩
  rw [he] at cf hf hc hc2 hc3
  simp only at hc hc2 hc3
  rw [hf] at cf
  clear hf
  clear hW hc1 hct hI
  subst hc3
  repeat' (first | with_reducible refine OutOK.done ?_ | refine thenQ_n ?_ | refine thenQ_r ?_ | refine thenQ_e ?_ | refine AW.seq ?_ | refine AW.dreg tok mixed [10]  [(0, false), (1, false), (2, false), (3, false), (4, false), (5, false), (6, false), (7, false), (9, false), (8, false), (10, true), (11, false), (12, false), (13, false)] (by decide +kernel) rfl (by simp [*]; rfl) ?_ | refine AW.dreg tok mixed [17, 28]  [(0, false), (1, false), (2, false), (3, false), (4, false), (5, false), (6, false), (7, false), (8, false), (9, false), (10, false), (11, false), (12, false), (13, false), (14, false), (16, false), (15, false), (17, true), (18, false), (19, false), (20, false), (21, false), (22, false), (23, false), (24, false), (27, false), (25, false), (26, false), (28, true), (29, false), (30, false), (31, false), (32, false)] (by decide +kernel) rfl (by simp [*]; rfl) ?_ | refine AW.reg tok (by simp [*]; rfl) ?_ | refine AW.ifB (by simp [*]; rfl) ?_ | refine IfG.t ?_ | refine IfG.f ?_ | (refine IfG.p (fun hg => ?_) (fun hg => ?_) <;> (try (have hg' := hg; simp at hg'))) | (refine IfG.n (fun hg => ?_) (fun hg => ?_) <;> (try (have hg' := hg; simp at hg'))) | (refine OutOK.gateP (fun hg => ?_) (fun hg => ?_) <;> (try (have hg' := hg; simp at hg'))) | (refine OutOK.gateN (fun hg => ?_) (fun hg => ?_) <;> (try (have hg' := hg; simp at hg'))) | (refine IfG.g (fun hg => ?_) (fun hg => ?_) <;> (try (have hg' := hg; simp at hg'))) | (refine OutOK.gate (fun hg => ?_) (fun hg => ?_) <;> (try (have hg' := hg; simp at hg'))) | (refine OutOK.callF [] (by simp [*]; rfl) (by simp [*]; rfl) (by simp [*]; rfl) hb117 (by apply cf <;> first | assumption | exact Hd.out (by assumption) | ((try (clear e0)); (try (clear e1)); (try (clear e2)); (try (clear e3)); (try (clear e4)); (try (clear e5)); (try (clear e6)); (try (clear e7)); (try (clear e8)); (try (clear e9)); (try (clear e10)); (try (clear e11)); omega)) ⟨by simp [*], by simp [*], by simp [*], by simp [*], by simp [*]⟩ (by simp [*]) (by simp [*]; rfl) ?_) | refine OutOK.run (by simp [*]; rfl) ?_ | refine AW.ret ?_ | refine AW.skip ?_ | refine AW.exit ?_ | refine fin_r ?_ | refine fin_n ?_ | refine AW.block ?_ | refine blockQ_n ?_ | refine blockQ_r ?_ | refine blockQ_e ?_ | refine blockQ_o rfl ?_)
  exact .inr ⟨rfl, hb.out, by simp, by simp, by simp⟩
theorem w_gd1h (l : List Edt) (n : Int) (i : Nat) (h : i < l.length) (hl : l.length ≤ 24) (h1 : 1 ≤ n) (h3 : n ≤ 3) (hW : EdtW l[i]) (j : Nat) (hj : j < l.length) (hI : i = j + 1) (hf : fldE l[i] n = true) (hct : -100 ≤ l[j].ct ∧ l[j].ct ≤ 100) (hc : ¬ l[j].tm < l[i].tm) (hc2 : l[j].tm = l[i].tm) (hc3 : ¬ l[j].ct + 1 = l[i].ct) : AW Try.prog 90 (cAt Try.f74 [2, 2, 1, 2, 5, 7]) (mk [(0, .c (.sl true 5 (edts true l))), (1, .c (.sc (.int .i64 n))), (5, .c (.sc (.int .i64 (i : Int))))] []) (Gd1Q l n i h) := by
  have e1 : wrap64 ((i : Int) + 1) = ((i + 1 : Nat) : Int) := by rw [w64 (by omega) (by omega)]; omega
  have e2 : wrap64 ((i : Int) - 1) = (j : Int) := by rw [w64 (by omega) (by omega)]; omega
  have cf := c_spec_l22Fields l[i] n hW h1 h3
  have hb : Hd (¬ (fldE l[i] n = true ∧ St2 l i h)) := fun hh => by have := hh.2.2 j hj hI; omega
  obtain ⟨c1, hc1⟩ : ∃ c1, l[j].ct + 1 = c1 := ⟨_, rfl⟩
  have e3 : wrap64 (l[j].ct + 1) = c1 := by rw [w64 (by omega) (by omega)]; exact hc1
  have hIz : ¬ i = 0 := by omega
  rw [hc1] at hc3
  obtain ⟨tm, ct, ck, it, tx, he⟩ : ∃ tm ct ck it tx, l[i] = ⟨tm, ct, ck, it, tx⟩ := ⟨_, _, _, _, _, rfl⟩
  rw [he] at cf hf hc hc2 hc3
  simp only at hc hc2 hc3
  rw [hf] at cf
  clear hf
  clear hW hc1 hct hI
  repeat' (first | with_reducible refine OutOK.done ?_ | refine thenQ_n ?_ | refine thenQ_r ?_ | refine thenQ_e ?_ | refine AW.seq ?_ | refine AW.dreg tok mixed [10]  [(0, false), (1, false), (2, false), (3, false), (4, false), (5, false), (6, false), (7, false), (9, false), (8, false), (10, true), (11, false), (12, false), (13, false)] (by decide +kernel) rfl (by simp [*]; rfl) ?_ | refine AW.dreg tok mixed [17, 28]  [(0, false), (1, false), (2, false), (3, false), (4, false), (5, false), (6, false), (7, false), (8, false), (9, false), (10, false), (11, false), (12, false), (13, false), (14, false), (16, false), (15, false), (17, true), (18, false), (19, false), (20, false), (21, false), (22, false), (23, false), (24, false), (27, false), (25, false), (26, false), (28, true), (29, false), (30, false), (31, false), (32, false)] (by decide +kernel) rfl (by simp [*]; rfl) ?_ | refine AW.reg tok (by simp [*]; rfl) ?_ | refine AW.ifB (by simp [*]; rfl) ?_ | refine IfG.t ?_ | refine IfG.f ?_ | (refine IfG.p (fun hg => ?_) (fun hg => ?_) <;> (try (have hg' := hg; simp at hg'))) | (refine IfG.n (fun hg => ?_) (fun hg => ?_) <;> (try (have hg' := hg; simp at hg'))) | (refine OutOK.gateP (fun hg => ?_) (fun hg => ?_) <;> (try (have hg' := hg; simp at hg'))) | (refine OutOK.gateN (fun hg => ?_) (fun hg => ?_) <;> (try (have hg' := hg; simp at hg'))) | (refine IfG.g (fun hg => ?_) (fun hg => ?_) <;> (try (have hg' := hg; simp at hg'))) | (refine OutOK.gate (fun hg => ?_) (fun hg => ?_) <;> (try (have hg' := hg; simp at hg'))) | (refine OutOK.callF [] (by simp [*]; rfl) (by simp [*]; rfl) (by simp [*]; rfl) hb117 (by apply cf <;> first | assumption | exact Hd.out (by assumption) | ((try (clear e0)); (try (clear e1)); (try (clear e2)); (try (clear e3)); (try (clear e4)); (try (clear e5)); (try (clear e6)); (try (clear e7)); (try (clear e8)); (try (clear e9)); (try (clear e10)); (try (clear e11)); omega)) ⟨by simp [*], by simp [*], by simp [*], by simp [*], by simp [*]⟩ (by simp [*]) (by simp [*]; rfl) ?_) | refine OutOK.run (by simp [*]; rfl) ?_ | refine AW.ret ?_ | refine AW.skip ?_ | refine AW.exit ?_ | refine fin_r ?_ | refine fin_n ?_ | refine AW.block ?_ | refine blockQ_n ?_ | refine blockQ_r ?_ | refine blockQ_e ?_ | refine blockQ_o rfl ?_)
  exact .inl ⟨rfl, hb.out, by simp [Try.f74]⟩
theorem w_gd1 (l : List Edt) (n : Int) (i : Nat) (h : i < l.length) (hl : l.length ≤ 24) (h1 : 1 ≤ n) (h3 : n ≤ 3) (hW : EdtW l[i]) (hct : ∀ j (hj : j < l.length), i = j + 1 → -100 ≤ l[j].ct ∧ l[j].ct ≤ 100) : AW Try.prog 90 (cAt Try.f74 [2, 2, 1, 2, 5, 7]) (mk [(0, .c (.sl true 5 (edts true l))), (1, .c (.sc (.int .i64 n))), (5, .c (.sc (.int .i64 (i : Int))))] []) (Gd1Q l n i h) := by
  cases hf : fldE l[i] n with
  | false => exact w_gd1a l n i h hl h1 h3 hW hf
  | true =>
    rcases i with _ | j
    · by_cases hc : l[0].ct = 1
      · exact w_gd1b l n 0 h hl h1 h3 hW rfl hf hc
      · exact w_gd1c l n 0 h hl h1 h3 hW rfl hf hc
    · have hj := hct j (by omega) rfl
      by_cases hc : l[j].tm < l[j + 1].tm
      · by_cases hc2 : l[j + 1].ct = 1
        · exact w_gd1d l n (j + 1) h hl h1 h3 hW j (by omega) rfl hf hj hc hc2
        · exact w_gd1e l n (j + 1) h hl h1 h3 hW j (by omega) rfl hf hj hc hc2
      · by_cases hc2 : l[j].tm = l[j + 1].tm
        · by_cases hc3 : l[j].ct + 1 = l[j + 1].ct
          · exact w_gd1g l n (j + 1) h hl h1 h3 hW j (by omega) rfl hf hj hc hc2 hc3
          · exact w_gd1h l n (j + 1) h hl h1 h3 hW j (by omega) rfl hf hj hc hc2 hc3
        · exact w_gd1f l n (j + 1) h hl h1 h3 hW j (by omega) rfl hf hj hc hc2
theorem st2_ct {l : List Edt} {n : Int} {i : Nat} (hi : i ≤ l.length) (hl : l.length ≤ 24) (hs : ∀ j (hj : j < l.length), j < i → fldE l[j] n = true ∧ St2 l j hj) (j : Nat) (hj : j < l.length) (hji : i = j + 1) : -100 ≤ l[j].ct ∧ l[j].ct ≤ 100 := by
  have h1 := (st_all (l := l) (n := n) i hi).2 (fun q hq hqi => ⟨(fldE_iff.1 (hs q hq hqi).1).1, (hs q hq hqi).2⟩)
  have h2 := (st1_inv (n := n) j hj (fun q hq hqi => h1 q hq (by omega))).2
  have h3 := cntE_all l l[j].tm (j + 1)
  have h4 := cntE_le l l[j].tm
  omega
theorem c_spec_l22Good (l : List Edt) (n : Int) (h : l.length ≤ 4611686018427387904) (hW : ∀ e ∈ l, EdtW e) : ACall Try.prog 74 [.v (.sl true 5 (edts true l)), int n] [.x, .x] [boo (hist l n)] := by
  have hW' : Hd _ := hW
  clear hW
  rcases Nat.lt_or_ge 24 l.length with h24 | h24
  · have hb : hist l n = false := hist_no (fun hh => by have := hh.len; omega)
    rw [hb]
    have h24' : (24 : Int) < l.length := by omega
    clear hb
    refine ACall.of (N := 90) tok Try.func74 rfl rfl rfl (by simp) ?_
    repeat' (first | with_reducible refine OutOK.done ?_ | refine thenQ_n ?_ | refine thenQ_r ?_ | refine thenQ_e ?_ | refine AW.seq ?_ | refine AW.dreg tok mixed [10]  [(0, false), (1, false), (2, false), (3, false), (4, false), (5, false), (6, false), (7, false), (9, false), (8, false), (10, true), (11, false), (12, false), (13, false)] (by decide +kernel) rfl (by simp [*]; rfl) ?_ | refine AW.dreg tok mixed [17, 28]  [(0, false), (1, false), (2, false), (3, false), (4, false), (5, false), (6, false), (7, false), (8, false), (9, false), (10, false), (11, false), (12, false), (13, false), (14, false), (16, false), (15, false), (17, true), (18, false), (19, false), (20, false), (21, false), (22, false), (23, false), (24, false), (27, false), (25, false), (26, false), (28, true), (29, false), (30, false), (31, false), (32, false)] (by decide +kernel) rfl (by simp [*]; rfl) ?_ | refine AW.reg tok (by simp [*]; rfl) ?_ | refine AW.ifB (by simp [*]; rfl) ?_ | refine IfG.t ?_ | refine IfG.f ?_ | (refine IfG.p (fun hg => ?_) (fun hg => ?_) <;> (try (have hg' := hg; simp at hg'))) | (refine IfG.n (fun hg => ?_) (fun hg => ?_) <;> (try (have hg' := hg; simp at hg'))) | (refine OutOK.gateP (fun hg => ?_) (fun hg => ?_) <;> (try (have hg' := hg; simp at hg'))) | (refine OutOK.gateN (fun hg => ?_) (fun hg => ?_) <;> (try (have hg' := hg; simp at hg'))) | (refine IfG.g (fun hg => ?_) (fun hg => ?_) <;> (try (have hg' := hg; simp at hg'))) | (refine OutOK.gate (fun hg => ?_) (fun hg => ?_) <;> (try (have hg' := hg; simp at hg'))) | refine OutOK.run (by simp [*]; rfl) ?_ | refine AW.ret ?_ | refine AW.skip ?_ | refine AW.exit ?_ | refine fin_r ?_ | refine fin_n ?_ | refine AW.block ?_ | refine blockQ_n ?_ | refine blockQ_r ?_ | refine blockQ_e ?_ | refine blockQ_o rfl ?_)
    simp [Try.f74]
  have h24' : ¬ (24 : Int) < l.length := by omega
  cases hR : inR 1 3 n with
  | false =>
    have hb : hist l n = false := hist_no (fun hh => by have := hh.nn; rw [hR] at this; cases this)
    rw [hb]
    clear hb
    refine ACall.of (N := 90) tok Try.func74 rfl rfl rfl (by simp) ?_
    repeat' (first | with_reducible refine OutOK.done ?_ | refine thenQ_n ?_ | refine thenQ_r ?_ | refine thenQ_e ?_ | refine AW.seq ?_ | refine AW.dreg tok mixed [10]  [(0, false), (1, false), (2, false), (3, false), (4, false), (5, false), (6, false), (7, false), (9, false), (8, false), (10, true), (11, false), (12, false), (13, false)] (by decide +kernel) rfl (by simp [*]; rfl) ?_ | refine AW.dreg tok mixed [17, 28]  [(0, false), (1, false), (2, false), (3, false), (4, false), (5, false), (6, false), (7, false), (8, false), (9, false), (10, false), (11, false), (12, false), (13, false), (14, false), (16, false), (15, false), (17, true), (18, false), (19, false), (20, false), (21, false), (22, false), (23, false), (24, false), (27, false), (25, false), (26, false), (28, true), (29, false), (30, false), (31, false), (32, false)] (by decide +kernel) rfl (by simp [*]; rfl) ?_ | refine AW.reg tok (by simp [*]; rfl) ?_ | refine AW.ifB (by simp [*]; rfl) ?_ | refine IfG.t ?_ | refine IfG.f ?_ | (refine IfG.p (fun hg => ?_) (fun hg => ?_) <;> (try (have hg' := hg; simp at hg'))) | (refine IfG.n (fun hg => ?_) (fun hg => ?_) <;> (try (have hg' := hg; simp at hg'))) | (refine OutOK.gateP (fun hg => ?_) (fun hg => ?_) <;> (try (have hg' := hg; simp at hg'))) | (refine OutOK.gateN (fun hg => ?_) (fun hg => ?_) <;> (try (have hg' := hg; simp at hg'))) | (refine IfG.g (fun hg => ?_) (fun hg => ?_) <;> (try (have hg' := hg; simp at hg'))) | (refine OutOK.gate (fun hg => ?_) (fun hg => ?_) <;> (try (have hg' := hg; simp at hg'))) | (refine OutOK.callF [] (by simp [*]; rfl) (by simp [*]; rfl) (by simp [*]; rfl) hb64 (by apply c_spec_l1In <;> first | assumption | exact Hd.out (by assumption) | ((try (clear e0)); (try (clear e1)); (try (clear e2)); (try (clear e3)); (try (clear e4)); (try (clear e5)); (try (clear e6)); (try (clear e7)); (try (clear e8)); (try (clear e9)); (try (clear e10)); (try (clear e11)); omega)) ⟨by simp [*], by simp [*], by simp [*], by simp [*], by simp [*]⟩ (by simp [*]) (by simp [*]; rfl) ?_) | refine OutOK.run (by simp [*]; rfl) ?_ | refine AW.ret ?_ | refine AW.skip ?_ | refine AW.exit ?_ | refine fin_r ?_ | refine fin_n ?_ | refine AW.block ?_ | refine blockQ_n ?_ | refine blockQ_r ?_ | refine blockQ_e ?_ | refine blockQ_o rfl ?_)
    simp [Try.f74]
  | true =>
    obtain ⟨n1, n3⟩ := inR_iff.1 hR
    have no : Hd (¬ HistS l n → hist l n = false) := fun hh => hist_no (fun hx => hh (hist_iff.1 hx))
    have yes : Hd (HistS l n → hist l n = true) := fun hh => hist_iff'.2 (hist_iff.2 hh)
    generalize hist l n = B at *
    refine ACall.of (N := 90) tok Try.func74 rfl rfl rfl (by simp) ?_
    repeat' (first | with_reducible refine OutOK.done ?_ | refine thenQ_n ?_ | refine thenQ_r ?_ | refine thenQ_e ?_ | refine AW.seq ?_ | refine AW.dreg tok mixed [10]  [(0, false), (1, false), (2, false), (3, false), (4, false), (5, false), (6, false), (7, false), (9, false), (8, false), (10, true), (11, false), (12, false), (13, false)] (by decide +kernel) rfl (by simp [*]; rfl) ?_ | refine AW.dreg tok mixed [17, 28]  [(0, false), (1, false), (2, false), (3, false), (4, false), (5, false), (6, false), (7, false), (8, false), (9, false), (10, false), (11, false), (12, false), (13, false), (14, false), (16, false), (15, false), (17, true), (18, false), (19, false), (20, false), (21, false), (22, false), (23, false), (24, false), (27, false), (25, false), (26, false), (28, true), (29, false), (30, false), (31, false), (32, false)] (by decide +kernel) rfl (by simp [*]; rfl) ?_ | refine AW.reg tok (by simp [*]; rfl) ?_ | refine AW.ifB (by simp [*]; rfl) ?_ | refine IfG.t ?_ | refine IfG.f ?_ | (refine IfG.p (fun hg => ?_) (fun hg => ?_) <;> (try (have hg' := hg; simp at hg'))) | (refine IfG.n (fun hg => ?_) (fun hg => ?_) <;> (try (have hg' := hg; simp at hg'))) | (refine OutOK.gateP (fun hg => ?_) (fun hg => ?_) <;> (try (have hg' := hg; simp at hg'))) | (refine OutOK.gateN (fun hg => ?_) (fun hg => ?_) <;> (try (have hg' := hg; simp at hg'))) | (refine IfG.g (fun hg => ?_) (fun hg => ?_) <;> (try (have hg' := hg; simp at hg'))) | (refine OutOK.gate (fun hg => ?_) (fun hg => ?_) <;> (try (have hg' := hg; simp at hg'))) | (refine OutOK.callF [] (by simp [*]; rfl) (by simp [*]; rfl) (by simp [*]; rfl) hb64 (by apply c_spec_l1In <;> first | assumption | exact Hd.out (by assumption) | ((try (clear e0)); (try (clear e1)); (try (clear e2)); (try (clear e3)); (try (clear e4)); (try (clear e5)); (try (clear e6)); (try (clear e7)); (try (clear e8)); (try (clear e9)); (try (clear e10)); (try (clear e11)); omega)) ⟨by simp [*], by simp [*], by simp [*], by simp [*], by simp [*]⟩ (by simp [*]) (by simp [*]; rfl) ?_) | refine OutOK.run (by simp [*]; rfl) ?_ | refine AW.ret ?_ | refine AW.skip ?_ | refine AW.exit ?_ | refine fin_r ?_ | refine fin_n ?_ | refine AW.block ?_ | refine blockQ_n ?_ | refine blockQ_r ?_ | refine blockQ_e ?_ | refine blockQ_o rfl ?_)
    refine AW.loopL (α := Nat) (fun i => i ≤ l.length ∧ Hd (∀ j (hj : j < l.length), j < i → fldE l[j] n = true ∧ St2 l j hj)) (fun i => [(0, .c (.sl true 5 (edts true l))), (1, .c (.sc (.int .i64 n))), (5, .c (.sc (.int .i64 (i : Int))))]) (fun _ => []) (fun i => l.length - i) 0 ⟨Nat.zero_le _, fun j _ hj => by omega⟩ ⟨by simp, by simp, by simp⟩ ?_
    rintro i ⟨hi, hs⟩
    rcases Nat.lt_or_ge i l.length with hil | hil
    · refine (w_gd1 l n i hil h24 n1 n3 (hW'.out _ (List.getElem_mem hil)) (fun j hj e => st2_ct hi h24 hs.out j hj e)).mono fun e st hq => ?_
      rcases hq with ⟨rfl, hk, hq⟩ | ⟨rfl, hk, hq⟩
      · have hb := no.out (fun hh => hk (hh.st i hil))
        subst hb
        exact ⟨.inr rfl, hq⟩
      · refine ⟨i + 1, ⟨hil, fun j hj hji => ?_⟩, hq, by omega⟩
        rcases Nat.lt_succ_iff_lt_or_eq.1 hji with h2 | rfl
        · exact hs.out j hj h2
        · exact hk
    · have hin : ¬ i < l.length := by omega
      have hii : i = l.length := by omega
      subst hii
      repeat' (first | with_reducible refine OutOK.done ?_ | refine thenQ_n ?_ | refine thenQ_r ?_ | refine thenQ_e ?_ | refine AW.seq ?_ | refine AW.dreg tok mixed [10]  [(0, false), (1, false), (2, false), (3, false), (4, false), (5, false), (6, false), (7, false), (9, false), (8, false), (10, true), (11, false), (12, false), (13, false)] (by decide +kernel) rfl (by simp [*]; rfl) ?_ | refine AW.dreg tok mixed [17, 28]  [(0, false), (1, false), (2, false), (3, false), (4, false), (5, false), (6, false), (7, false), (8, false), (9, false), (10, false), (11, false), (12, false), (13, false), (14, false), (16, false), (15, false), (17, true), (18, false), (19, false), (20, false), (21, false), (22, false), (23, false), (24, false), (27, false), (25, false), (26, false), (28, true), (29, false), (30, false), (31, false), (32, false)] (by decide +kernel) rfl (by simp [*]; rfl) ?_ | refine AW.reg tok (by simp [*]; rfl) ?_ | refine AW.ifB (by simp [*]; rfl) ?_ | refine IfG.t ?_ | refine IfG.f ?_ | (refine IfG.p (fun hg => ?_) (fun hg => ?_) <;> (try (have hg' := hg; simp at hg'))) | (refine IfG.n (fun hg => ?_) (fun hg => ?_) <;> (try (have hg' := hg; simp at hg'))) | (refine OutOK.gateP (fun hg => ?_) (fun hg => ?_) <;> (try (have hg' := hg; simp at hg'))) | (refine OutOK.gateN (fun hg => ?_) (fun hg => ?_) <;> (try (have hg' := hg; simp at hg'))) | (refine IfG.g (fun hg => ?_) (fun hg => ?_) <;> (try (have hg' := hg; simp at hg'))) | (refine OutOK.gate (fun hg => ?_) (fun hg => ?_) <;> (try (have hg' := hg; simp at hg'))) | refine OutOK.run (by simp [*]; rfl) ?_ | refine AW.ret ?_ | refine AW.skip ?_ | refine AW.exit ?_ | refine fin_r ?_ | refine fin_n ?_ | refine AW.block ?_ | refine blockQ_n ?_ | refine blockQ_r ?_ | refine blockQ_e ?_ | refine blockQ_o rfl ?_)
      have hlen : ∀ a (ha : a < l.length), (l[a].ck.length : Int) = n := fun a ha => (fldE_iff.1 (hs.out a ha ha).1).2.1
      refine AW.loopL (α := Nat) (fun i => i ≤ l.length ∧ Hd (∀ j (hj : j < l.length), j < i → Kn l l[j])) (fun i => [(0, .c (.sl true 5 (edts true l))), (1, .c (.sc (.int .i64 n))), (8, .c (.sc (.int .i64 (i : Int))))]) (fun _ => []) (fun i => l.length - i) 0 ⟨Nat.zero_le _, fun j _ hj => by omega⟩ ⟨by simp, by simp, by simp⟩ ?_
      rintro i ⟨hi, hk⟩
      rcases Nat.lt_or_ge i l.length with hil | hil
      · have e1 : wrap64 ((i : Int) + 1) = ((i + 1 : Nat) : Int) := by rw [w64 (by omega) (by omega)]; omega
        have hli := hlen i hil
        have hRi := inR_iff.1 (fldE_iff.1 (hs.out i hil hil).1).1
        by_cases hkn : Kn l l[i]
        · have ck := c_spec_l22Knows l l[i] l[i].tm.toNat true (by simp [hkn]) h24 (by omega) (by omega) (by omega) (fun x hx => by
            obtain ⟨a, ha, rfl⟩ := List.getElem_of_mem hx
            have := hlen a ha; omega)
          have hk2 : Hd (∀ j (hj : j < l.length), j < i + 1 → Kn l l[j]) := by
            intro j hj hji
            rcases Nat.lt_succ_iff_lt_or_eq.1 hji with h2 | rfl
            · exact hk.out j hj h2
            · exact hkn
          clear hlen hli hRi
          repeat' (first | with_reducible refine OutOK.done ?_ | refine thenQ_n ?_ | refine thenQ_r ?_ | refine thenQ_e ?_ | refine AW.seq ?_ | refine AW.dreg tok mixed [10]  [(0, false), (1, false), (2, false), (3, false), (4, false), (5, false), (6, false), (7, false), (9, false), (8, false), (10, true), (11, false), (12, false), (13, false)] (by decide +kernel) rfl (by simp [*]; rfl) ?_ | refine AW.dreg tok mixed [17, 28]  [(0, false), (1, false), (2, false), (3, false), (4, false), (5, false), (6, false), (7, false), (8, false), (9, false), (10, false), (11, false), (12, false), (13, false), (14, false), (16, false), (15, false), (17, true), (18, false), (19, false), (20, false), (21, false), (22, false), (23, false), (24, false), (27, false), (25, false), (26, false), (28, true), (29, false), (30, false), (31, false), (32, false)] (by decide +kernel) rfl (by simp [*]; rfl) ?_ | refine AW.reg tok (by simp [*]; rfl) ?_ | refine AW.ifB (by simp [*]; rfl) ?_ | refine IfG.t ?_ | refine IfG.f ?_ | (refine IfG.p (fun hg => ?_) (fun hg => ?_) <;> (try (have hg' := hg; simp at hg'))) | (refine IfG.n (fun hg => ?_) (fun hg => ?_) <;> (try (have hg' := hg; simp at hg'))) | (refine OutOK.gateP (fun hg => ?_) (fun hg => ?_) <;> (try (have hg' := hg; simp at hg'))) | (refine OutOK.gateN (fun hg => ?_) (fun hg => ?_) <;> (try (have hg' := hg; simp at hg'))) | (refine IfG.g (fun hg => ?_) (fun hg => ?_) <;> (try (have hg' := hg; simp at hg'))) | (refine OutOK.gate (fun hg => ?_) (fun hg => ?_) <;> (try (have hg' := hg; simp at hg'))) | (refine OutOK.callF [] (by simp [*]; rfl) (by simp [*]; rfl) (by simp [*]; rfl) hb118 (by apply ck <;> first | assumption | exact Hd.out (by assumption) | ((try (clear e0)); (try (clear e1)); (try (clear e2)); (try (clear e3)); (try (clear e4)); (try (clear e5)); (try (clear e6)); (try (clear e7)); (try (clear e8)); (try (clear e9)); (try (clear e10)); (try (clear e11)); omega)) ⟨by simp [*], by simp [*], by simp [*], by simp [*], by simp [*]⟩ (by simp [*]) (by simp [*]; rfl) ?_) | refine OutOK.run (by simp [*]; rfl) ?_ | refine AW.ret ?_ | refine AW.skip ?_ | refine AW.exit ?_ | refine fin_r ?_ | refine fin_n ?_ | refine AW.block ?_ | refine blockQ_n ?_ | refine blockQ_r ?_ | refine blockQ_e ?_ | refine blockQ_o rfl ?_)
          exact ⟨i + 1, ⟨hil, hk2⟩, ⟨by simp, by simp, by simp⟩, by ((try (clear e0)); (try (clear e1)); (try (clear e2)); (try (clear e3)); (try (clear e4)); (try (clear e5)); (try (clear e6)); (try (clear e7)); (try (clear e8)); (try (clear e9)); (try (clear e10)); (try (clear e11)); omega)⟩
        · have ck := c_spec_l22Knows l l[i] l[i].tm.toNat false (by simp [hkn]) h24 (by omega) (by omega) (by omega) (fun x hx => by
            obtain ⟨a, ha, rfl⟩ := List.getElem_of_mem hx
            have := hlen a ha; omega)
          have hb := no.out (fun hh => hkn (hh.kn i hil))
          subst hb
          clear hlen hli hRi no yes
          repeat' (first | with_reducible refine OutOK.done ?_ | refine thenQ_n ?_ | refine thenQ_r ?_ | refine thenQ_e ?_ | refine AW.seq ?_ | refine AW.dreg tok mixed [10]  [(0, false), (1, false), (2, false), (3, false), (4, false), (5, false), (6, false), (7, false), (9, false), (8, false), (10, true), (11, false), (12, false), (13, false)] (by decide +kernel) rfl (by simp [*]; rfl) ?_ | refine AW.dreg tok mixed [17, 28]  [(0, false), (1, false), (2, false), (3, false), (4, false), (5, false), (6, false), (7, false), (8, false), (9, false), (10, false), (11, false), (12, false), (13, false), (14, false), (16, false), (15, false), (17, true), (18, false), (19, false), (20, false), (21, false), (22, false), (23, false), (24, false), (27, false), (25, false), (26, false), (28, true), (29, false), (30, false), (31, false), (32, false)] (by decide +kernel) rfl (by simp [*]; rfl) ?_ | refine AW.reg tok (by simp [*]; rfl) ?_ | refine AW.ifB (by simp [*]; rfl) ?_ | refine IfG.t ?_ | refine IfG.f ?_ | (refine IfG.p (fun hg => ?_) (fun hg => ?_) <;> (try (have hg' := hg; simp at hg'))) | (refine IfG.n (fun hg => ?_) (fun hg => ?_) <;> (try (have hg' := hg; simp at hg'))) | (refine OutOK.gateP (fun hg => ?_) (fun hg => ?_) <;> (try (have hg' := hg; simp at hg'))) | (refine OutOK.gateN (fun hg => ?_) (fun hg => ?_) <;> (try (have hg' := hg; simp at hg'))) | (refine IfG.g (fun hg => ?_) (fun hg => ?_) <;> (try (have hg' := hg; simp at hg'))) | (refine OutOK.gate (fun hg => ?_) (fun hg => ?_) <;> (try (have hg' := hg; simp at hg'))) | (refine OutOK.callF [] (by simp [*]; rfl) (by simp [*]; rfl) (by simp [*]; rfl) hb118 (by apply ck <;> first | assumption | exact Hd.out (by assumption) | ((try (clear e0)); (try (clear e1)); (try (clear e2)); (try (clear e3)); (try (clear e4)); (try (clear e5)); (try (clear e6)); (try (clear e7)); (try (clear e8)); (try (clear e9)); (try (clear e10)); (try (clear e11)); omega)) ⟨by simp [*], by simp [*], by simp [*], by simp [*], by simp [*]⟩ (by simp [*]) (by simp [*]; rfl) ?_) | refine OutOK.run (by simp [*]; rfl) ?_ | refine AW.ret ?_ | refine AW.skip ?_ | refine AW.exit ?_ | refine fin_r ?_ | refine fin_n ?_ | refine AW.block ?_ | refine blockQ_n ?_ | refine blockQ_r ?_ | refine blockQ_e ?_ | refine blockQ_o rfl ?_)
          simp [Try.f74]
      · have hin : ¬ i < l.length := by omega
        have hb : B = true := yes.out ⟨hR, h24, fun j hj => hs.out j hj hj, fun j hj => hk.out j hj (by omega)⟩
        subst hb
        clear hlen no yes
        repeat' (first | with_reducible refine OutOK.done ?_ | refine thenQ_n ?_ | refine thenQ_r ?_ | refine thenQ_e ?_ | refine AW.seq ?_ | refine AW.dreg tok mixed [10]  [(0, false), (1, false), (2, false), (3, false), (4, false), (5, false), (6, false), (7, false), (9, false), (8, false), (10, true), (11, false), (12, false), (13, false)] (by decide +kernel) rfl (by simp [*]; rfl) ?_ | refine AW.dreg tok mixed [17, 28]  [(0, false), (1, false), (2, false), (3, false), (4, false), (5, false), (6, false), (7, false), (8, false), (9, false), (10, false), (11, false), (12, false), (13, false), (14, false), (16, false), (15, false), (17, true), (18, false), (19, false), (20, false), (21, false), (22, false), (23, false), (24, false), (27, false), (25, false), (26, false), (28, true), (29, false), (30, false), (31, false), (32, false)] (by decide +kernel) rfl (by simp [*]; rfl) ?_ | refine AW.reg tok (by simp [*]; rfl) ?_ | refine AW.ifB (by simp [*]; rfl) ?_ | refine IfG.t ?_ | refine IfG.f ?_ | (refine IfG.p (fun hg => ?_) (fun hg => ?_) <;> (try (have hg' := hg; simp at hg'))) | (refine IfG.n (fun hg => ?_) (fun hg => ?_) <;> (try (have hg' := hg; simp at hg'))) | (refine OutOK.gateP (fun hg => ?_) (fun hg => ?_) <;> (try (have hg' := hg; simp at hg'))) | (refine OutOK.gateN (fun hg => ?_) (fun hg => ?_) <;> (try (have hg' := hg; simp at hg'))) | (refine IfG.g (fun hg => ?_) (fun hg => ?_) <;> (try (have hg' := hg; simp at hg'))) | (refine OutOK.gate (fun hg => ?_) (fun hg => ?_) <;> (try (have hg' := hg; simp at hg'))) | refine OutOK.run (by simp [*]; rfl) ?_ | refine AW.ret ?_ | refine AW.skip ?_ | refine AW.exit ?_ | refine fin_r ?_ | refine fin_n ?_ | refine AW.block ?_ | refine blockQ_n ?_ | refine blockQ_r ?_ | refine blockQ_e ?_ | refine blockQ_o rfl ?_)
        simp [Try.f74]
end Go.Proofs.Ytbofobjofngoeaa.EngS


set_option linter.unusedSimpArgs false
set_option linter.unusedVariables false
namespace Go.Eng
open Go.RowKit
variable {P : Program} {T : Nat → Option TI} {N : Nat}
structure Hold (p : Prop) : Prop where
  out : p
theorem AW.stopR (id : Nat) {ops : Array Oper} {d : Bool} {rest : Code} {st : St} {Q : Exit → St → Prop} (h : Hold (AW P N (.seq (.region id ops d) rest) st Q)) : AW P N (.seq (.region id ops d) rest) st Q := h.out
theorem AW.stopB (id : Nat) {b : Code} {st : St} {Q : Exit → St → Prop} (h : Hold (AW P N (.block id b) st Q)) : AW P N (.block id b) st Q := h.out
theorem Hold.via {c : Code} {e r} {st : St} {Q' Q : Exit → St → Prop} (h : AW P N c (Go.Eng.mk e r) Q') (hl : LessL st e r) (hq : ∀ ex st', Q' ex st' → Q ex st') : Hold (AW P N c st Q) := ⟨AW.forget e r hl (h.mono hq)⟩
end Go.Eng

set_option linter.unusedSimpArgs false
set_option linter.unusedVariables false
set_option maxHeartbeats 4000000
set_option maxRecDepth 100000
namespace Go.Proofs.Ytbofobjofngoeaa.EngS
open Go Go.Proofs Go.Eng Go.RowKit
attribute [local irreducible] Go.RowKit.wrap64
def cts (l : List Edt) (n : Int) (i : Nat) : List Int := (List.range n.toNat).map fun t : Nat => ((cntE (l.take i) (t : Int) : Nat) : Int)
@[simp] theorem cts_len (l n i) : (cts l n i).length = n.toNat := by simp [cts]
@[simp] theorem cts_at (l : List Edt) (n : Int) (i t : Nat) (h : t < (cts l n i).length) : (cts l n i)[t] = ((cntE (l.take i) (t : Int) : Nat) : Int) := by simp [cts]
theorem cts_zero (l : List Edt) (n : Int) : cts l n 0 = List.replicate n.toNat 0 := by
  apply List.ext_getElem
  · simp
  · intro j h1 h2; simp [cntE]
theorem cts_step (l : List Edt) (n : Int) (i T : Nat) (h : i < l.length) (ht : l[i].tm = T) : (cts l n i).set T (((cntE (l.take i) (T : Int) : Nat) : Int) + 1) = cts l n (i + 1) := by
  apply List.ext_getElem
  · simp
  · intro j h1 h2
    rw [List.getElem_set]
    simp only [cts_at, cntE_take l i h, ht]
    split
    · rename_i e; subst e; simp
    · rename_i e; rw [if_neg (by omega)]; simp
def IhBQ (l : List Edt) (n : Int) (i : Nat) (cl : List Int) (e : Edt) (ex : Exit) (st : St) : Prop :=
  (ex = .ret ∧ ¬ Fl e n ∧ FinP T Try.f26.results.toList [.v (.sl true 5 (edts true l)), int n] [.x, .x] [boo false] st) ∨
  (ex = .normal ∧ Fl e n ∧ LessL st [(0, .c (.sl true 5 (edts true l))), (1, .c (.sc (.int .i64 n))), (5, .rf 25000 []), (26, .c (.sl true 5 (edts true l))), (27, .c (.sc (.int .i64 (l.length : Int)))), (28, .c (.sc (.int .i64 (i : Int))))] [(25000, .sv (.sl false 1 (ints (cl))))])
theorem w_ihBd (l : List Edt) (n : Int) (i : Nat) (cl : List Int) (T : Nat) (ct : Int) (ck : List Int) (it tx : ByteArray) (hW1 : it.size ≤ 9223372036854775807) (hW2 : tx.size ≤ 9223372036854775807) (hTn : (T : Int) ≤ n - 1) (hln : ¬ (ck.length : Int) = n) : AW Try.prog 152 (cAt Try.f26 [2, 2, 2, 1, 2, 5, 7, 2, 2, 1, 5, 2, 2, 2]) (mk [(0, .c (.sl true 5 (edts true l))), (1, .c (.sc (.int .i64 n))), (5, .rf 25000 []), (7, .pt 7000 []  0), (26, .c (.sl true 5 (edts true l))), (27, .c (.sc (.int .i64 (l.length : Int)))), (28, .c (.sc (.int .i64 (i : Int))))] [(25000, .sv (.sl false 1 (ints cl))), (7000, .bx (edtC true ⟨(T : Int), ct, ck, it, tx⟩))]) (IhBQ l n i cl ⟨(T : Int), ct, ck, it, tx⟩) := by
  have hb : Hd (¬ Fl ⟨(T : Int), ct, ck, it, tx⟩ n) := fun hh => by exact hln hh.1
  repeat' (first | with_reducible refine OutOK.done ?_ | refine thenQ_n ?_ | refine thenQ_r ?_ | refine thenQ_e ?_ | refine AW.seq ?_ | refine AW.dreg tok mixed [15, 25, 26, 27, 28]  [(0, false), (2, false), (3, false), (1, false), (4, false), (5, false), (6, false), (7, false), (8, false), (9, false), (10, false), (11, false), (12, false), (13, false), (14, false), (15, true), (16, false), (17, false), (18, false), (19, false), (20, false), (21, false), (23, false), (24, false), (22, false), (25, true), (26, true), (27, true), (28, true), (29, false), (30, false)] (by decide +kernel) rfl (by simp [*]; rfl) ?_ | refine AW.dreg tok mixed [9, 13]  [(0, false), (3, false), (1, false), (2, false), (4, false), (5, false), (6, false), (8, false), (12, false), (7, false), (9, true), (10, false), (11, false), (13, true), (14, false), (15, false), (16, false), (17, false), (18, false), (19, false), (20, false), (21, false), (22, false), (23, false), (24, false), (25, false), (26, false), (27, false)] (by decide +kernel) rfl (by simp [*]; rfl) ?_ | refine AW.reg tok (by simp [*]; rfl) ?_ | refine AW.ifB (by simp [*]; rfl) ?_ | refine IfG.t ?_ | refine IfG.f ?_ | (refine IfG.p (fun hg => ?_) (fun hg => ?_) <;> (try (have hg' := hg; simp at hg'))) | (refine IfG.n (fun hg => ?_) (fun hg => ?_) <;> (try (have hg' := hg; simp at hg'))) | (refine OutOK.gateP (fun hg => ?_) (fun hg => ?_) <;> (try (have hg' := hg; simp at hg'))) | (refine OutOK.gateN (fun hg => ?_) (fun hg => ?_) <;> (try (have hg' := hg; simp at hg'))) | (refine IfG.g (fun hg => ?_) (fun hg => ?_) <;> (try (have hg' := hg; simp at hg'))) | (refine OutOK.gate (fun hg => ?_) (fun hg => ?_) <;> (try (have hg' := hg; simp at hg'))) | refine OutOK.run (by simp [*]; rfl) ?_ | refine AW.ret ?_ | refine AW.skip ?_ | refine AW.exit ?_ | refine fin_r ?_ | refine fin_n ?_ | refine AW.block ?_ | refine blockQ_n ?_ | refine blockQ_r ?_ | refine blockQ_e ?_ | refine blockQ_o rfl ?_)
  exact .inl ⟨rfl, hb.out, by simp [Try.f26]⟩
theorem w_ihBe (l : List Edt) (n : Int) (i : Nat) (cl : List Int) (T : Nat) (ct : Int) (ck : List Int) (it tx : ByteArray) (hW1 : it.size ≤ 9223372036854775807) (hW2 : tx.size ≤ 9223372036854775807) (hTn : (T : Int) ≤ n - 1) (hln : (ck.length : Int) = n) (hck : ¬ ckAt ck (T : Int) = ct) : AW Try.prog 152 (cAt Try.f26 [2, 2, 2, 1, 2, 5, 7, 2, 2, 1, 5, 2, 2, 2]) (mk [(0, .c (.sl true 5 (edts true l))), (1, .c (.sc (.int .i64 n))), (5, .rf 25000 []), (7, .pt 7000 []  0), (26, .c (.sl true 5 (edts true l))), (27, .c (.sc (.int .i64 (l.length : Int)))), (28, .c (.sc (.int .i64 (i : Int))))] [(25000, .sv (.sl false 1 (ints cl))), (7000, .bx (edtC true ⟨(T : Int), ct, ck, it, tx⟩))]) (IhBQ l n i cl ⟨(T : Int), ct, ck, it, tx⟩) := by
  have hb : Hd (¬ Fl ⟨(T : Int), ct, ck, it, tx⟩ n) := fun hh => by exact hck hh.2.1
  have hTk : T < ck.length := by omega
  have hck : ¬ ck[T] = ct := by simpa [ckAt, hTk] using hck
  subst hln
  repeat' (first | with_reducible refine OutOK.done ?_ | refine thenQ_n ?_ | refine thenQ_r ?_ | refine thenQ_e ?_ | refine AW.seq ?_ | refine AW.dreg tok mixed [15, 25, 26, 27, 28]  [(0, false), (2, false), (3, false), (1, false), (4, false), (5, false), (6, false), (7, false), (8, false), (9, false), (10, false), (11, false), (12, false), (13, false), (14, false), (15, true), (16, false), (17, false), (18, false), (19, false), (20, false), (21, false), (23, false), (24, false), (22, false), (25, true), (26, true), (27, true), (28, true), (29, false), (30, false)] (by decide +kernel) rfl (by simp [*]; rfl) ?_ | refine AW.dreg tok mixed [9, 13]  [(0, false), (3, false), (1, false), (2, false), (4, false), (5, false), (6, false), (8, false), (12, false), (7, false), (9, true), (10, false), (11, false), (13, true), (14, false), (15, false), (16, false), (17, false), (18, false), (19, false), (20, false), (21, false), (22, false), (23, false), (24, false), (25, false), (26, false), (27, false)] (by decide +kernel) rfl (by simp [*]; rfl) ?_ | refine AW.reg tok (by simp [*]; rfl) ?_ | refine AW.ifB (by simp [*]; rfl) ?_ | refine IfG.t ?_ | refine IfG.f ?_ | (refine IfG.p (fun hg => ?_) (fun hg => ?_) <;> (try (have hg' := hg; simp at hg'))) | (refine IfG.n (fun hg => ?_) (fun hg => ?_) <;> (try (have hg' := hg; simp at hg'))) | (refine OutOK.gateP (fun hg => ?_) (fun hg => ?_) <;> (try (have hg' := hg; simp at hg'))) | (refine OutOK.gateN (fun hg => ?_) (fun hg => ?_) <;> (try (have hg' := hg; simp at hg'))) | (refine IfG.g (fun hg => ?_) (fun hg => ?_) <;> (try (have hg' := hg; simp at hg'))) | (refine OutOK.gate (fun hg => ?_) (fun hg => ?_) <;> (try (have hg' := hg; simp at hg'))) | refine OutOK.run (by simp [*]; rfl) ?_ | refine AW.ret ?_ | refine AW.skip ?_ | refine AW.exit ?_ | refine fin_r ?_ | refine fin_n ?_ | refine AW.block ?_ | refine blockQ_n ?_ | refine blockQ_r ?_ | refine blockQ_e ?_ | refine blockQ_o rfl ?_)
  exact .inl ⟨rfl, hb.out, by simp [Try.f26]⟩
theorem w_ihBf (l : List Edt) (n : Int) (i : Nat) (cl : List Int) (T : Nat) (ct : Int) (ck : List Int) (it tx : ByteArray) (hW1 : it.size ≤ 9223372036854775807) (hW2 : tx.size ≤ 9223372036854775807) (hTn : (T : Int) ≤ n - 1) (hln : (ck.length : Int) = n) (hck : ckAt ck (T : Int) = ct) (hN : nameOK it = false) : AW Try.prog 152 (cAt Try.f26 [2, 2, 2, 1, 2, 5, 7, 2, 2, 1, 5, 2, 2, 2]) (mk [(0, .c (.sl true 5 (edts true l))), (1, .c (.sc (.int .i64 n))), (5, .rf 25000 []), (7, .pt 7000 []  0), (26, .c (.sl true 5 (edts true l))), (27, .c (.sc (.int .i64 (l.length : Int)))), (28, .c (.sc (.int .i64 (i : Int))))] [(25000, .sv (.sl false 1 (ints cl))), (7000, .bx (edtC true ⟨(T : Int), ct, ck, it, tx⟩))]) (IhBQ l n i cl ⟨(T : Int), ct, ck, it, tx⟩) := by
  have hb : Hd (¬ Fl ⟨(T : Int), ct, ck, it, tx⟩ n) := fun hh => by have := hh.2.2.1; simp only [hN] at this; cases this
  have hTk : T < ck.length := by omega
  have hck : ck[T] = ct := by simpa [ckAt, hTk] using hck
  have cn := c_impl_isName it hW1
  rw [hN] at cn
  subst hln
  repeat' (first | with_reducible refine OutOK.done ?_ | refine thenQ_n ?_ | refine thenQ_r ?_ | refine thenQ_e ?_ | refine AW.seq ?_ | refine AW.dreg tok mixed [15, 25, 26, 27, 28]  [(0, false), (2, false), (3, false), (1, false), (4, false), (5, false), (6, false), (7, false), (8, false), (9, false), (10, false), (11, false), (12, false), (13, false), (14, false), (15, true), (16, false), (17, false), (18, false), (19, false), (20, false), (21, false), (23, false), (24, false), (22, false), (25, true), (26, true), (27, true), (28, true), (29, false), (30, false)] (by decide +kernel) rfl (by simp [*]; rfl) ?_ | refine AW.dreg tok mixed [9, 13]  [(0, false), (3, false), (1, false), (2, false), (4, false), (5, false), (6, false), (8, false), (12, false), (7, false), (9, true), (10, false), (11, false), (13, true), (14, false), (15, false), (16, false), (17, false), (18, false), (19, false), (20, false), (21, false), (22, false), (23, false), (24, false), (25, false), (26, false), (27, false)] (by decide +kernel) rfl (by simp [*]; rfl) ?_ | refine AW.reg tok (by simp [*]; rfl) ?_ | refine AW.ifB (by simp [*]; rfl) ?_ | refine IfG.t ?_ | refine IfG.f ?_ | (refine IfG.p (fun hg => ?_) (fun hg => ?_) <;> (try (have hg' := hg; simp at hg'))) | (refine IfG.n (fun hg => ?_) (fun hg => ?_) <;> (try (have hg' := hg; simp at hg'))) | (refine OutOK.gateP (fun hg => ?_) (fun hg => ?_) <;> (try (have hg' := hg; simp at hg'))) | (refine OutOK.gateN (fun hg => ?_) (fun hg => ?_) <;> (try (have hg' := hg; simp at hg'))) | (refine IfG.g (fun hg => ?_) (fun hg => ?_) <;> (try (have hg' := hg; simp at hg'))) | (refine OutOK.gate (fun hg => ?_) (fun hg => ?_) <;> (try (have hg' := hg; simp at hg'))) | (refine OutOK.callF [] (by simp [*]; rfl) (by simp [*]; rfl) (by simp [*]; rfl) hb77 (by apply cn <;> first | assumption | exact Hd.out (by assumption) | ((try (clear e0)); (try (clear e1)); (try (clear e2)); (try (clear e3)); (try (clear e4)); (try (clear e5)); (try (clear e6)); (try (clear e7)); (try (clear e8)); (try (clear e9)); (try (clear e10)); (try (clear e11)); omega)) ⟨by simp [*], by simp [*], by simp [*], by simp [*], by simp [*]⟩ (by simp [*]) (by simp [*]; rfl) ?_) | refine OutOK.run (by simp [*]; rfl) ?_ | refine AW.ret ?_ | refine AW.skip ?_ | refine AW.exit ?_ | refine fin_r ?_ | refine fin_n ?_ | refine AW.block ?_ | refine blockQ_n ?_ | refine blockQ_r ?_ | refine blockQ_e ?_ | refine blockQ_o rfl ?_)
  exact .inl ⟨rfl, hb.out, by simp [Try.f26]⟩
theorem w_ihBg (l : List Edt) (n : Int) (i : Nat) (cl : List Int) (T : Nat) (ct : Int) (ck : List Int) (it tx : ByteArray) (hW1 : it.size ≤ 9223372036854775807) (hW2 : tx.size ≤ 9223372036854775807) (hTn : (T : Int) ≤ n - 1) (hln : (ck.length : Int) = n) (hck : ckAt ck (T : Int) = ct) (hN : nameOK it = true) (hX : textOK tx = false) : AW Try.prog 152 (cAt Try.f26 [2, 2, 2, 1, 2, 5, 7, 2, 2, 1, 5, 2, 2, 2]) (mk [(0, .c (.sl true 5 (edts true l))), (1, .c (.sc (.int .i64 n))), (5, .rf 25000 []), (7, .pt 7000 []  0), (26, .c (.sl true 5 (edts true l))), (27, .c (.sc (.int .i64 (l.length : Int)))), (28, .c (.sc (.int .i64 (i : Int))))] [(25000, .sv (.sl false 1 (ints cl))), (7000, .bx (edtC true ⟨(T : Int), ct, ck, it, tx⟩))]) (IhBQ l n i cl ⟨(T : Int), ct, ck, it, tx⟩) := by
  have hb : Hd (¬ Fl ⟨(T : Int), ct, ck, it, tx⟩ n) := fun hh => by have := hh.2.2.2; simp only [hX] at this; cases this
  have hTk : T < ck.length := by omega
  have hck : ck[T] = ct := by simpa [ckAt, hTk] using hck
  have cn := c_impl_isName it hW1
  rw [hN] at cn
  have cx := c_impl_isText tx hW2
  rw [hX] at cx
  subst hln
  repeat' (first | with_reducible refine OutOK.done ?_ | refine thenQ_n ?_ | refine thenQ_r ?_ | refine thenQ_e ?_ | refine AW.seq ?_ | refine AW.dreg tok mixed [15, 25, 26, 27, 28]  [(0, false), (2, false), (3, false), (1, false), (4, false), (5, false), (6, false), (7, false), (8, false), (9, false), (10, false), (11, false), (12, false), (13, false), (14, false), (15, true), (16, false), (17, false), (18, false), (19, false), (20, false), (21, false), (23, false), (24, false), (22, false), (25, true), (26, true), (27, true), (28, true), (29, false), (30, false)] (by decide +kernel) rfl (by simp [*]; rfl) ?_ | refine AW.dreg tok mixed [9, 13]  [(0, false), (3, false), (1, false), (2, false), (4, false), (5, false), (6, false), (8, false), (12, false), (7, false), (9, true), (10, false), (11, false), (13, true), (14, false), (15, false), (16, false), (17, false), (18, false), (19, false), (20, false), (21, false), (22, false), (23, false), (24, false), (25, false), (26, false), (27, false)] (by decide +kernel) rfl (by simp [*]; rfl) ?_ | refine AW.reg tok (by simp [*]; rfl) ?_ | refine AW.ifB (by simp [*]; rfl) ?_ | refine IfG.t ?_ | refine IfG.f ?_ | (refine IfG.p (fun hg => ?_) (fun hg => ?_) <;> (try (have hg' := hg; simp at hg'))) | (refine IfG.n (fun hg => ?_) (fun hg => ?_) <;> (try (have hg' := hg; simp at hg'))) | (refine OutOK.gateP (fun hg => ?_) (fun hg => ?_) <;> (try (have hg' := hg; simp at hg'))) | (refine OutOK.gateN (fun hg => ?_) (fun hg => ?_) <;> (try (have hg' := hg; simp at hg'))) | (refine IfG.g (fun hg => ?_) (fun hg => ?_) <;> (try (have hg' := hg; simp at hg'))) | (refine OutOK.gate (fun hg => ?_) (fun hg => ?_) <;> (try (have hg' := hg; simp at hg'))) | (refine OutOK.callF [] (by simp [*]; rfl) (by simp [*]; rfl) (by simp [*]; rfl) hb77 (by apply cn <;> first | assumption | exact Hd.out (by assumption) | ((try (clear e0)); (try (clear e1)); (try (clear e2)); (try (clear e3)); (try (clear e4)); (try (clear e5)); (try (clear e6)); (try (clear e7)); (try (clear e8)); (try (clear e9)); (try (clear e10)); (try (clear e11)); omega)) ⟨by simp [*], by simp [*], by simp [*], by simp [*], by simp [*]⟩ (by simp [*]) (by simp [*]; rfl) ?_) | (refine OutOK.callF [] (by simp [*]; rfl) (by simp [*]; rfl) (by simp [*]; rfl) hb78 (by apply cx <;> first | assumption | exact Hd.out (by assumption) | ((try (clear e0)); (try (clear e1)); (try (clear e2)); (try (clear e3)); (try (clear e4)); (try (clear e5)); (try (clear e6)); (try (clear e7)); (try (clear e8)); (try (clear e9)); (try (clear e10)); (try (clear e11)); omega)) ⟨by simp [*], by simp [*], by simp [*], by simp [*], by simp [*]⟩ (by simp [*]) (by simp [*]; rfl) ?_) | refine OutOK.run (by simp [*]; rfl) ?_ | refine AW.ret ?_ | refine AW.skip ?_ | refine AW.exit ?_ | refine fin_r ?_ | refine fin_n ?_ | refine AW.block ?_ | refine blockQ_n ?_ | refine blockQ_r ?_ | refine blockQ_e ?_ | refine blockQ_o rfl ?_)
  exact .inl ⟨rfl, hb.out, by simp [Try.f26]⟩
theorem w_ihBh (l : List Edt) (n : Int) (i : Nat) (cl : List Int) (T : Nat) (ct : Int) (ck : List Int) (it tx : ByteArray) (hW1 : it.size ≤ 9223372036854775807) (hW2 : tx.size ≤ 9223372036854775807) (hTn : (T : Int) ≤ n - 1) (hln : (ck.length : Int) = n) (hck : ckAt ck (T : Int) = ct) (hN : nameOK it = true) (hX : textOK tx = true) : AW Try.prog 152 (cAt Try.f26 [2, 2, 2, 1, 2, 5, 7, 2, 2, 1, 5, 2, 2, 2]) (mk [(0, .c (.sl true 5 (edts true l))), (1, .c (.sc (.int .i64 n))), (5, .rf 25000 []), (7, .pt 7000 []  0), (26, .c (.sl true 5 (edts true l))), (27, .c (.sc (.int .i64 (l.length : Int)))), (28, .c (.sc (.int .i64 (i : Int))))] [(25000, .sv (.sl false 1 (ints cl))), (7000, .bx (edtC true ⟨(T : Int), ct, ck, it, tx⟩))]) (IhBQ l n i cl ⟨(T : Int), ct, ck, it, tx⟩) := by
  have hb : Hd (Fl ⟨(T : Int), ct, ck, it, tx⟩ n) := ⟨hln, hck, hN, hX⟩
  have hTk : T < ck.length := by omega
  have hck : ck[T] = ct := by simpa [ckAt, hTk] using hck
  have cn := c_impl_isName it hW1
  rw [hN] at cn
  have cx := c_impl_isText tx hW2
  rw [hX] at cx
  subst hln
  repeat' (first | with_reducible refine OutOK.done ?_ | refine thenQ_n ?_ | refine thenQ_r ?_ | refine thenQ_e ?_ | refine AW.seq ?_ | refine AW.dreg tok mixed [15, 25, 26, 27, 28]  [(0, false), (2, false), (3, false), (1, false), (4, false), (5, false), (6, false), (7, false), (8, false), (9, false), (10, false), (11, false), (12, false), (13, false), (14, false), (15, true), (16, false), (17, false), (18, false), (19, false), (20, false), (21, false), (23, false), (24, false), (22, false), (25, true), (26, true), (27, true), (28, true), (29, false), (30, false)] (by decide +kernel) rfl (by simp [*]; rfl) ?_ | refine AW.dreg tok mixed [9, 13]  [(0, false), (3, false), (1, false), (2, false), (4, false), (5, false), (6, false), (8, false), (12, false), (7, false), (9, true), (10, false), (11, false), (13, true), (14, false), (15, false), (16, false), (17, false), (18, false), (19, false), (20, false), (21, false), (22, false), (23, false), (24, false), (25, false), (26, false), (27, false)] (by decide +kernel) rfl (by simp [*]; rfl) ?_ | refine AW.reg tok (by simp [*]; rfl) ?_ | refine AW.ifB (by simp [*]; rfl) ?_ | refine IfG.t ?_ | refine IfG.f ?_ | (refine IfG.p (fun hg => ?_) (fun hg => ?_) <;> (try (have hg' := hg; simp at hg'))) | (refine IfG.n (fun hg => ?_) (fun hg => ?_) <;> (try (have hg' := hg; simp at hg'))) | (refine OutOK.gateP (fun hg => ?_) (fun hg => ?_) <;> (try (have hg' := hg; simp at hg'))) | (refine OutOK.gateN (fun hg => ?_) (fun hg => ?_) <;> (try (have hg' := hg; simp at hg'))) | (refine IfG.g (fun hg => ?_) (fun hg => ?_) <;> (try (have hg' := hg; simp at hg'))) | (refine OutOK.gate (fun hg => ?_) (fun hg => ?_) <;> (try (have hg' := hg; simp at hg'))) | (refine OutOK.callF [] (by simp [*]; rfl) (by simp [*]; rfl) (by simp [*]; rfl) hb77 (by apply cn <;> first | assumption | exact Hd.out (by assumption) | ((try (clear e0)); (try (clear e1)); (try (clear e2)); (try (clear e3)); (try (clear e4)); (try (clear e5)); (try (clear e6)); (try (clear e7)); (try (clear e8)); (try (clear e9)); (try (clear e10)); (try (clear e11)); omega)) ⟨by simp [*], by simp [*], by simp [*], by simp [*], by simp [*]⟩ (by simp [*]) (by simp [*]; rfl) ?_) | (refine OutOK.callF [] (by simp [*]; rfl) (by simp [*]; rfl) (by simp [*]; rfl) hb78 (by apply cx <;> first | assumption | exact Hd.out (by assumption) | ((try (clear e0)); (try (clear e1)); (try (clear e2)); (try (clear e3)); (try (clear e4)); (try (clear e5)); (try (clear e6)); (try (clear e7)); (try (clear e8)); (try (clear e9)); (try (clear e10)); (try (clear e11)); omega)) ⟨by simp [*], by simp [*], by simp [*], by simp [*], by simp [*]⟩ (by simp [*]) (by simp [*]; rfl) ?_) | refine OutOK.run (by simp [*]; rfl) ?_ | refine AW.ret ?_ | refine AW.skip ?_ | refine AW.exit ?_ | refine fin_r ?_ | refine fin_n ?_ | refine AW.block ?_ | refine blockQ_n ?_ | refine blockQ_r ?_ | refine blockQ_e ?_ | refine blockQ_o rfl ?_)
  exact .inr ⟨rfl, hb.out, by simp, by simp, by simp⟩
theorem w_ihB (l : List Edt) (n : Int) (i : Nat) (cl : List Int) (T : Nat) (ct : Int) (ck : List Int) (it tx : ByteArray) (hW1 : it.size ≤ 9223372036854775807) (hW2 : tx.size ≤ 9223372036854775807) (hTn : (T : Int) ≤ n - 1) : AW Try.prog 152 (cAt Try.f26 [2, 2, 2, 1, 2, 5, 7, 2, 2, 1, 5, 2, 2, 2]) (mk [(0, .c (.sl true 5 (edts true l))), (1, .c (.sc (.int .i64 n))), (5, .rf 25000 []), (7, .pt 7000 []  0), (26, .c (.sl true 5 (edts true l))), (27, .c (.sc (.int .i64 (l.length : Int)))), (28, .c (.sc (.int .i64 (i : Int))))] [(25000, .sv (.sl false 1 (ints cl))), (7000, .bx (edtC true ⟨(T : Int), ct, ck, it, tx⟩))]) (IhBQ l n i cl ⟨(T : Int), ct, ck, it, tx⟩) := by
  by_cases hln : (ck.length : Int) = n
  · by_cases hck : ckAt ck (T : Int) = ct
    · cases hN : nameOK it with
      | false => exact w_ihBf l n i cl T ct ck it tx hW1 hW2 hTn hln hck hN
      | true =>
        cases hX : textOK tx with
        | false => exact w_ihBg l n i cl T ct ck it tx hW1 hW2 hTn hln hck hN hX
        | true => exact w_ihBh l n i cl T ct ck it tx hW1 hW2 hTn hln hck hN hX
    · exact w_ihBe l n i cl T ct ck it tx hW1 hW2 hTn hln hck
  · exact w_ihBd l n i cl T ct ck it tx hW1 hW2 hTn hln
def Ih1Q (l : List Edt) (n : Int) (i : Nat) (h : i < l.length) (e : Exit) (st : St) : Prop :=
  (e = .ret ∧ ¬ (St1 l n i h ∧ Fl l[i] n) ∧ FinP T Try.f26.results.toList [.v (.sl true 5 (edts true l)), int n] [.x, .x] [boo false] st) ∨
  (e = .normal ∧ (St1 l n i h ∧ Fl l[i] n) ∧ LessL st [(0, .c (.sl true 5 (edts true l))), (1, .c (.sc (.int .i64 n))), (5, .rf 25000 []), (26, .c (.sl true 5 (edts true l))), (27, .c (.sc (.int .i64 (l.length : Int)))), (28, .c (.sc (.int .i64 ((i + 1 : Nat) : Int))))] [(25000, .sv (.sl false 1 (ints (cts l n (i + 1)))))])
theorem w_ih1a (l : List Edt) (n : Int) (i : Nat) (h : i < l.length) (hl : l.length ≤ 24) (h1 : 1 ≤ n) (h3 : n ≤ 3) (hW : EdtW l[i]) (hR : inR 0 (n - 1) l[i].tm = false) : AW Try.prog 152 (cAt Try.f26 [2, 2, 2, 1, 2, 5, 7]) (mk [(0, .c (.sl true 5 (edts true l))), (1, .c (.sc (.int .i64 n))), (5, .rf 25000 []), (26, .c (.sl true 5 (edts true l))), (27, .c (.sc (.int .i64 (l.length : Int)))), (28, .c (.sc (.int .i64 (i : Int))))] [(25000, .sv (.sl false 1 (ints (cts l n i))))]) (Ih1Q l n i h) := by
  have e1 : wrap64 ((i : Int) + 1) = ((i + 1 : Nat) : Int) := by rw [w64 (by omega) (by omega)]; omega
  have e2 : wrap64 (n - 1) = n - 1 := w64 (by omega) (by omega)
  have hb : Hd (¬ (St1 l n i h ∧ Fl l[i] n)) := fun hh => by have := hh.1.1; rw [hR] at this; cases this
  generalize cts l n i = cl
  repeat' (first | with_reducible refine OutOK.done ?_ | refine thenQ_n ?_ | refine thenQ_r ?_ | refine thenQ_e ?_ | refine AW.seq ?_ | refine AW.dreg tok mixed [15, 25, 26, 27, 28]  [(0, false), (2, false), (3, false), (1, false), (4, false), (5, false), (6, false), (7, false), (8, false), (9, false), (10, false), (11, false), (12, false), (13, false), (14, false), (15, true), (16, false), (17, false), (18, false), (19, false), (20, false), (21, false), (23, false), (24, false), (22, false), (25, true), (26, true), (27, true), (28, true), (29, false), (30, false)] (by decide +kernel) rfl (by simp [*]; rfl) ?_ | refine AW.dreg tok mixed [9, 13]  [(0, false), (3, false), (1, false), (2, false), (4, false), (5, false), (6, false), (8, false), (12, false), (7, false), (9, true), (10, false), (11, false), (13, true), (14, false), (15, false), (16, false), (17, false), (18, false), (19, false), (20, false), (21, false), (22, false), (23, false), (24, false), (25, false), (26, false), (27, false)] (by decide +kernel) rfl (by simp [*]; rfl) ?_ | refine AW.reg tok (by simp [*]; rfl) ?_ | refine AW.ifB (by simp [*]; rfl) ?_ | refine IfG.t ?_ | refine IfG.f ?_ | (refine IfG.p (fun hg => ?_) (fun hg => ?_) <;> (try (have hg' := hg; simp at hg'))) | (refine IfG.n (fun hg => ?_) (fun hg => ?_) <;> (try (have hg' := hg; simp at hg'))) | (refine OutOK.gateP (fun hg => ?_) (fun hg => ?_) <;> (try (have hg' := hg; simp at hg'))) | (refine OutOK.gateN (fun hg => ?_) (fun hg => ?_) <;> (try (have hg' := hg; simp at hg'))) | (refine IfG.g (fun hg => ?_) (fun hg => ?_) <;> (try (have hg' := hg; simp at hg'))) | (refine OutOK.gate (fun hg => ?_) (fun hg => ?_) <;> (try (have hg' := hg; simp at hg'))) | (refine OutOK.callF [] (by simp [*]; rfl) (by simp [*]; rfl) (by simp [*]; rfl) hb59 (by apply c_impl_within <;> first | assumption | exact Hd.out (by assumption) | ((try (clear e0)); (try (clear e1)); (try (clear e2)); (try (clear e3)); (try (clear e4)); (try (clear e5)); (try (clear e6)); (try (clear e7)); (try (clear e8)); (try (clear e9)); (try (clear e10)); (try (clear e11)); omega)) ⟨by simp [*], by simp [*], by simp [*], by simp [*], by simp [*]⟩ (by simp [*]) (by simp [*]; rfl) ?_) | refine OutOK.run (by simp [*]; rfl) ?_ | refine AW.ret ?_ | refine AW.skip ?_ | refine AW.exit ?_ | refine fin_r ?_ | refine fin_n ?_ | refine AW.block ?_ | refine blockQ_n ?_ | refine blockQ_r ?_ | refine blockQ_e ?_ | refine blockQ_o rfl ?_)
  exact .inl ⟨rfl, hb.out, by simp [Try.f26]⟩
theorem w_ih1b (l : List Edt) (n : Int) (i : Nat) (h : i < l.length) (hl : l.length ≤ 24) (h1 : 1 ≤ n) (h3 : n ≤ 3) (hW : EdtW l[i]) (j : Nat) (hj : j < l.length) (hI : i = j + 1) (hR : inR 0 (n - 1) l[i].tm = true) (hc : 0 ≤ cmpE l[j] l[i]) : AW Try.prog 152 (cAt Try.f26 [2, 2, 2, 1, 2, 5, 7]) (mk [(0, .c (.sl true 5 (edts true l))), (1, .c (.sc (.int .i64 n))), (5, .rf 25000 []), (26, .c (.sl true 5 (edts true l))), (27, .c (.sc (.int .i64 (l.length : Int)))), (28, .c (.sc (.int .i64 (i : Int))))] [(25000, .sv (.sl false 1 (ints (cts l n i))))]) (Ih1Q l n i h) := by
  have e1 : wrap64 ((i : Int) + 1) = ((i + 1 : Nat) : Int) := by rw [w64 (by omega) (by omega)]; omega
  have e2 : wrap64 (n - 1) = n - 1 := w64 (by omega) (by omega)
  have e3 : wrap64 ((i : Int) - 1) = (j : Int) := by rw [w64 (by omega) (by omega)]; omega
  have hb : Hd (¬ (St1 l n i h ∧ Fl l[i] n)) := fun hh => by have := hh.1.2.1 j hj hI; omega
  have cc := c_impl_compareEdits l[j] l[i]
  have hi0 : 0 < i := by omega
  generalize cts l n i = cl
  generalize cmpE l[j] l[i] = z at *
  clear hI
  repeat' (first | with_reducible refine OutOK.done ?_ | refine thenQ_n ?_ | refine thenQ_r ?_ | refine thenQ_e ?_ | refine AW.seq ?_ | refine AW.dreg tok mixed [15, 25, 26, 27, 28]  [(0, false), (2, false), (3, false), (1, false), (4, false), (5, false), (6, false), (7, false), (8, false), (9, false), (10, false), (11, false), (12, false), (13, false), (14, false), (15, true), (16, false), (17, false), (18, false), (19, false), (20, false), (21, false), (23, false), (24, false), (22, false), (25, true), (26, true), (27, true), (28, true), (29, false), (30, false)] (by decide +kernel) rfl (by simp [*]; rfl) ?_ | refine AW.dreg tok mixed [9, 13]  [(0, false), (3, false), (1, false), (2, false), (4, false), (5, false), (6, false), (8, false), (12, false), (7, false), (9, true), (10, false), (11, false), (13, true), (14, false), (15, false), (16, false), (17, false), (18, false), (19, false), (20, false), (21, false), (22, false), (23, false), (24, false), (25, false), (26, false), (27, false)] (by decide +kernel) rfl (by simp [*]; rfl) ?_ | refine AW.reg tok (by simp [*]; rfl) ?_ | refine AW.ifB (by simp [*]; rfl) ?_ | refine IfG.t ?_ | refine IfG.f ?_ | (refine IfG.p (fun hg => ?_) (fun hg => ?_) <;> (try (have hg' := hg; simp at hg'))) | (refine IfG.n (fun hg => ?_) (fun hg => ?_) <;> (try (have hg' := hg; simp at hg'))) | (refine OutOK.gateP (fun hg => ?_) (fun hg => ?_) <;> (try (have hg' := hg; simp at hg'))) | (refine OutOK.gateN (fun hg => ?_) (fun hg => ?_) <;> (try (have hg' := hg; simp at hg'))) | (refine IfG.g (fun hg => ?_) (fun hg => ?_) <;> (try (have hg' := hg; simp at hg'))) | (refine OutOK.gate (fun hg => ?_) (fun hg => ?_) <;> (try (have hg' := hg; simp at hg'))) | (refine OutOK.callF [] (by simp [*]; rfl) (by simp [*]; rfl) (by simp [*]; rfl) hb59 (by apply c_impl_within <;> first | assumption | exact Hd.out (by assumption) | ((try (clear e0)); (try (clear e1)); (try (clear e2)); (try (clear e3)); (try (clear e4)); (try (clear e5)); (try (clear e6)); (try (clear e7)); (try (clear e8)); (try (clear e9)); (try (clear e10)); (try (clear e11)); omega)) ⟨by simp [*], by simp [*], by simp [*], by simp [*], by simp [*]⟩ (by simp [*]) (by simp [*]; rfl) ?_) | (refine OutOK.callF [] (by simp [*]; rfl) (by simp [*]; rfl) (by simp [*]; rfl) hb76 (by apply cc <;> first | assumption | exact Hd.out (by assumption) | ((try (clear e0)); (try (clear e1)); (try (clear e2)); (try (clear e3)); (try (clear e4)); (try (clear e5)); (try (clear e6)); (try (clear e7)); (try (clear e8)); (try (clear e9)); (try (clear e10)); (try (clear e11)); omega)) ⟨by simp [*], by simp [*], by simp [*], by simp [*], by simp [*]⟩ (by simp [*]) (by simp [*]; rfl) ?_) | refine OutOK.run (by simp [*]; rfl) ?_ | refine AW.ret ?_ | refine AW.skip ?_ | refine AW.exit ?_ | refine fin_r ?_ | refine fin_n ?_ | refine AW.block ?_ | refine blockQ_n ?_ | refine blockQ_r ?_ | refine blockQ_e ?_ | refine blockQ_o rfl ?_)
  exact .inl ⟨rfl, hb.out, by simp [Try.f26]⟩
theorem w_ih1c0 (l : List Edt) (n : Int) (i : Nat) (h : i < l.length) (hl : l.length ≤ 24) (h1 : 1 ≤ n) (h3 : n ≤ 3) (hW : EdtW l[i]) (T : Nat) (hT : l[i].tm = T) (hTn : (T : Int) ≤ n - 1) (h0 : i = 0) (hct : ¬ l[i].ct = (cntE (l.take i) (T : Int) : Int) + 1) : AW Try.prog 152 (cAt Try.f26 [2, 2, 2, 1, 2, 5, 7]) (mk [(0, .c (.sl true 5 (edts true l))), (1, .c (.sc (.int .i64 n))), (5, .rf 25000 []), (26, .c (.sl true 5 (edts true l))), (27, .c (.sc (.int .i64 (l.length : Int)))), (28, .c (.sc (.int .i64 (i : Int))))] [(25000, .sv (.sl false 1 (ints (cts l n i))))]) (Ih1Q l n i h) := by
  have e1 : wrap64 ((i : Int) + 1) = ((i + 1 : Nat) : Int) := by rw [w64 (by omega) (by omega)]; omega
  have e2 : wrap64 (n - 1) = n - 1 := w64 (by omega) (by omega)
  have hi0 : ¬ 0 < i := by omega
  have hR : inR 0 (n - 1) (T : Int) = true := inR_iff.2 ⟨by omega, hTn⟩
  have hb : Hd (¬ (St1 l n i h ∧ Fl l[i] n)) := fun hh => by have := hh.1.2.2; rw [hT] at this; exact hct this
  have hTl : T < (cts l n i).length := by simp; omega
  have hat : (cts l n i)[T] = ((cntE (l.take i) (T : Int) : Nat) : Int) := cts_at _ _ _ _ _
  have hcn24 : cntE (l.take i) (T : Int) ≤ 24 := by have := cntE_le (l.take i) T; have := List.length_take_le i l; omega
  generalize hcl : cts l n i = cl at *
  generalize cntE (l.take i) (T : Int) = c at *
  clear hcl
  obtain ⟨c1, hc1⟩ : ∃ c1, (c : Int) + 1 = c1 := ⟨_, rfl⟩
  have e4 : wrap64 ((c : Int) + 1) = c1 := by rw [w64 (by omega) (by omega)]; exact hc1
  obtain ⟨hW1, hW2, hW3⟩ := hW
  obtain ⟨tm, ct, ck, it, tx, he⟩ : ∃ tm ct ck it tx, l[i] = ⟨tm, ct, ck, it, tx⟩ := ⟨_, _, _, _, _, rfl⟩
  rw [he] at hT hW1 hW2 hct
  simp only at hT hW1 hW2 hct
  subst hT
  rw [hc1] at hct
  clear h0
  clear hc1
  repeat' (first | with_reducible refine OutOK.done ?_ | refine thenQ_n ?_ | refine thenQ_r ?_ | refine thenQ_e ?_ | refine AW.seq ?_ | refine AW.dreg tok mixed [15, 25, 26, 27, 28]  [(0, false), (2, false), (3, false), (1, false), (4, false), (5, false), (6, false), (7, false), (8, false), (9, false), (10, false), (11, false), (12, false), (13, false), (14, false), (15, true), (16, false), (17, false), (18, false), (19, false), (20, false), (21, false), (23, false), (24, false), (22, false), (25, true), (26, true), (27, true), (28, true), (29, false), (30, false)] (by decide +kernel) rfl (by simp [*]; rfl) ?_ | refine AW.dreg tok mixed [9, 13]  [(0, false), (3, false), (1, false), (2, false), (4, false), (5, false), (6, false), (8, false), (12, false), (7, false), (9, true), (10, false), (11, false), (13, true), (14, false), (15, false), (16, false), (17, false), (18, false), (19, false), (20, false), (21, false), (22, false), (23, false), (24, false), (25, false), (26, false), (27, false)] (by decide +kernel) rfl (by simp [*]; rfl) ?_ | refine AW.reg tok (by simp [*]; rfl) ?_ | refine AW.ifB (by simp [*]; rfl) ?_ | refine IfG.t ?_ | refine IfG.f ?_ | (refine IfG.p (fun hg => ?_) (fun hg => ?_) <;> (try (have hg' := hg; simp at hg'))) | (refine IfG.n (fun hg => ?_) (fun hg => ?_) <;> (try (have hg' := hg; simp at hg'))) | (refine OutOK.gateP (fun hg => ?_) (fun hg => ?_) <;> (try (have hg' := hg; simp at hg'))) | (refine OutOK.gateN (fun hg => ?_) (fun hg => ?_) <;> (try (have hg' := hg; simp at hg'))) | (refine IfG.g (fun hg => ?_) (fun hg => ?_) <;> (try (have hg' := hg; simp at hg'))) | (refine OutOK.gate (fun hg => ?_) (fun hg => ?_) <;> (try (have hg' := hg; simp at hg'))) | (refine OutOK.callF [] (by simp [*]; rfl) (by simp [*]; rfl) (by simp [*]; rfl) hb59 (by apply c_impl_within <;> first | assumption | exact Hd.out (by assumption) | ((try (clear e0)); (try (clear e1)); (try (clear e2)); (try (clear e3)); (try (clear e4)); (try (clear e5)); (try (clear e6)); (try (clear e7)); (try (clear e8)); (try (clear e9)); (try (clear e10)); (try (clear e11)); omega)) ⟨by simp [*], by simp [*], by simp [*], by simp [*], by simp [*]⟩ (by simp [*]) (by simp [*]; rfl) ?_) | refine OutOK.run (by simp [*]; rfl) ?_ | refine AW.ret ?_ | refine AW.skip ?_ | refine AW.exit ?_ | refine fin_r ?_ | refine fin_n ?_ | refine AW.block ?_ | refine blockQ_n ?_ | refine blockQ_r ?_ | refine blockQ_e ?_ | refine blockQ_o rfl ?_)
  exact .inl ⟨rfl, hb.out, by simp [Try.f26]⟩
theorem w_ih1k0 (l : List Edt) (n : Int) (i : Nat) (h : i < l.length) (hl : l.length ≤ 24) (h1 : 1 ≤ n) (h3 : n ≤ 3) (hW : EdtW l[i]) (T : Nat) (hT : l[i].tm = T) (hTn : (T : Int) ≤ n - 1) (h0 : i = 0) (hct : l[i].ct = (cntE (l.take i) (T : Int) : Int) + 1) : AW Try.prog 152 (cAt Try.f26 [2, 2, 2, 1, 2, 5, 7]) (mk [(0, .c (.sl true 5 (edts true l))), (1, .c (.sc (.int .i64 n))), (5, .rf 25000 []), (26, .c (.sl true 5 (edts true l))), (27, .c (.sc (.int .i64 (l.length : Int)))), (28, .c (.sc (.int .i64 (i : Int))))] [(25000, .sv (.sl false 1 (ints (cts l n i))))]) (Ih1Q l n i h) := by
  have e1 : wrap64 ((i : Int) + 1) = ((i + 1 : Nat) : Int) := by rw [w64 (by omega) (by omega)]; omega
  have e2 : wrap64 (n - 1) = n - 1 := w64 (by omega) (by omega)
  have hi0 : ¬ 0 < i := by omega
  have hR : inR 0 (n - 1) (T : Int) = true := inR_iff.2 ⟨by omega, hTn⟩
  have hb : Hd (St1 l n i h) := ⟨by rw [hT]; exact hR, fun q hq e => by omega, by rw [hT]; exact hct⟩
  have hset : Hd ((cts l n i).set T (((cntE (l.take i) (T : Int) : Nat) : Int) + 1) = cts l n (i + 1)) := cts_step l n i T h hT
  have hge : Hd (Fl l[i] n = Fl l[i] n) := rfl
  have hTl : T < (cts l n i).length := by simp; omega
  have hat : (cts l n i)[T] = ((cntE (l.take i) (T : Int) : Nat) : Int) := cts_at _ _ _ _ _
  have hcn24 : cntE (l.take i) (T : Int) ≤ 24 := by have := cntE_le (l.take i) T; have := List.length_take_le i l; omega
  generalize hcl : cts l n i = cl at *
  generalize cntE (l.take i) (T : Int) = c at *
  clear hcl
  obtain ⟨c1, hc1⟩ : ∃ c1, (c : Int) + 1 = c1 := ⟨_, rfl⟩
  have e4 : wrap64 ((c : Int) + 1) = c1 := by rw [w64 (by omega) (by omega)]; exact hc1
  rw [hc1] at hset
  obtain ⟨hW1, hW2, hW3⟩ := hW
  obtain ⟨tm, ct, ck, it, tx, he⟩ : ∃ tm ct ck it tx, l[i] = ⟨tm, ct, ck, it, tx⟩ := ⟨_, _, _, _, _, rfl⟩
  rw [he] at hT hW1 hW2 hct
  simp only at hT hW1 hW2 hct
  subst hT
  rw [hc1] at hct
  clear h0
  subst hct
  clear hc1
  have hB := w_ihB l n i (cl.set T ct) T ct ck it tx hW1 hW2 hTn
  have he' : Hd _ := he
  have hn' : Hd (Fl ⟨(T : Int), ct, ck, it, tx⟩ n = Fl l[i] n) := by rw [he]; rfl
  repeat' (first | with_reducible refine AW.stopR 10 ?_ | with_reducible refine OutOK.done ?_ | refine thenQ_n ?_ | refine thenQ_r ?_ | refine thenQ_e ?_ | refine AW.seq ?_ | refine AW.dreg tok mixed [15, 25, 26, 27, 28]  [(0, false), (2, false), (3, false), (1, false), (4, false), (5, false), (6, false), (7, false), (8, false), (9, false), (10, false), (11, false), (12, false), (13, false), (14, false), (15, true), (16, false), (17, false), (18, false), (19, false), (20, false), (21, false), (23, false), (24, false), (22, false), (25, true), (26, true), (27, true), (28, true), (29, false), (30, false)] (by decide +kernel) rfl (by simp [*]; rfl) ?_ | refine AW.dreg tok mixed [9, 13]  [(0, false), (3, false), (1, false), (2, false), (4, false), (5, false), (6, false), (8, false), (12, false), (7, false), (9, true), (10, false), (11, false), (13, true), (14, false), (15, false), (16, false), (17, false), (18, false), (19, false), (20, false), (21, false), (22, false), (23, false), (24, false), (25, false), (26, false), (27, false)] (by decide +kernel) rfl (by simp [*]; rfl) ?_ | refine AW.reg tok (by simp [*]; rfl) ?_ | refine AW.ifB (by simp [*]; rfl) ?_ | refine IfG.t ?_ | refine IfG.f ?_ | (refine IfG.p (fun hg => ?_) (fun hg => ?_) <;> (try (have hg' := hg; simp at hg'))) | (refine IfG.n (fun hg => ?_) (fun hg => ?_) <;> (try (have hg' := hg; simp at hg'))) | (refine OutOK.gateP (fun hg => ?_) (fun hg => ?_) <;> (try (have hg' := hg; simp at hg'))) | (refine OutOK.gateN (fun hg => ?_) (fun hg => ?_) <;> (try (have hg' := hg; simp at hg'))) | (refine IfG.g (fun hg => ?_) (fun hg => ?_) <;> (try (have hg' := hg; simp at hg'))) | (refine OutOK.gate (fun hg => ?_) (fun hg => ?_) <;> (try (have hg' := hg; simp at hg'))) | (refine OutOK.callF [] (by simp [*]; rfl) (by simp [*]; rfl) (by simp [*]; rfl) hb59 (by apply c_impl_within <;> first | assumption | exact Hd.out (by assumption) | ((try (clear e0)); (try (clear e1)); (try (clear e2)); (try (clear e3)); (try (clear e4)); (try (clear e5)); (try (clear e6)); (try (clear e7)); (try (clear e8)); (try (clear e9)); (try (clear e10)); (try (clear e11)); omega)) ⟨by simp [*], by simp [*], by simp [*], by simp [*], by simp [*]⟩ (by simp [*]) (by simp [*]; rfl) ?_) | refine OutOK.run (by simp [*]; rfl) ?_ | refine AW.ret ?_ | refine AW.skip ?_ | refine AW.exit ?_ | refine fin_r ?_ | refine fin_n ?_ | refine AW.block ?_ | refine blockQ_n ?_ | refine blockQ_r ?_ | refine blockQ_e ?_ | refine blockQ_o rfl ?_)
  refine Hold.via hB ⟨by simp, by simp, by simp⟩ (fun e st hq => ?_)
  rcases hq with ⟨rfl, hq1, hq⟩ | ⟨rfl, hq1, hq⟩
  · exact .inl ⟨rfl, fun hh => hq1 (by rw [hn'.out]; exact hh.2), hq⟩
  · refine AW.forget _ _ hq ?_
    rw [hn'.out] at hq1
    rw [hset.out]
    clear hq
    repeat' (first | with_reducible refine OutOK.done ?_ | refine thenQ_n ?_ | refine thenQ_r ?_ | refine thenQ_e ?_ | refine AW.seq ?_ | refine AW.dreg tok mixed [15, 25, 26, 27, 28]  [(0, false), (2, false), (3, false), (1, false), (4, false), (5, false), (6, false), (7, false), (8, false), (9, false), (10, false), (11, false), (12, false), (13, false), (14, false), (15, true), (16, false), (17, false), (18, false), (19, false), (20, false), (21, false), (23, false), (24, false), (22, false), (25, true), (26, true), (27, true), (28, true), (29, false), (30, false)] (by decide +kernel) rfl (by simp [*]; rfl) ?_ | refine AW.dreg tok mixed [9, 13]  [(0, false), (3, false), (1, false), (2, false), (4, false), (5, false), (6, false), (8, false), (12, false), (7, false), (9, true), (10, false), (11, false), (13, true), (14, false), (15, false), (16, false), (17, false), (18, false), (19, false), (20, false), (21, false), (22, false), (23, false), (24, false), (25, false), (26, false), (27, false)] (by decide +kernel) rfl (by simp [*]; rfl) ?_ | refine AW.reg tok (by simp [*]; rfl) ?_ | refine AW.ifB (by simp [*]; rfl) ?_ | refine IfG.t ?_ | refine IfG.f ?_ | (refine IfG.p (fun hg => ?_) (fun hg => ?_) <;> (try (have hg' := hg; simp at hg'))) | (refine IfG.n (fun hg => ?_) (fun hg => ?_) <;> (try (have hg' := hg; simp at hg'))) | (refine OutOK.gateP (fun hg => ?_) (fun hg => ?_) <;> (try (have hg' := hg; simp at hg'))) | (refine OutOK.gateN (fun hg => ?_) (fun hg => ?_) <;> (try (have hg' := hg; simp at hg'))) | (refine IfG.g (fun hg => ?_) (fun hg => ?_) <;> (try (have hg' := hg; simp at hg'))) | (refine OutOK.gate (fun hg => ?_) (fun hg => ?_) <;> (try (have hg' := hg; simp at hg'))) | refine OutOK.run (by simp [*]; rfl) ?_ | refine AW.ret ?_ | refine AW.skip ?_ | refine AW.exit ?_ | refine fin_r ?_ | refine fin_n ?_ | refine AW.block ?_ | refine blockQ_n ?_ | refine blockQ_r ?_ | refine blockQ_e ?_ | refine blockQ_o rfl ?_)
    exact .inr ⟨rfl, ⟨hb.out, hq1⟩, by simp, by simp, by simp⟩
theorem w_ih1c1 (l : List Edt) (n : Int) (i : Nat) (h : i < l.length) (hl : l.length ≤ 24) (h1 : 1 ≤ n) (h3 : n ≤ 3) (hW : EdtW l[i]) (j : Nat) (hj : j < l.length) (hI : i = j + 1) (T : Nat) (hT : l[i].tm = T) (hTn : (T : Int) ≤ n - 1) (hc : cmpE l[j] l[i] < 0) (hct : ¬ l[i].ct = (cntE (l.take i) (T : Int) : Int) + 1) : AW Try.prog 152 (cAt Try.f26 [2, 2, 2, 1, 2, 5, 7]) (mk [(0, .c (.sl true 5 (edts true l))), (1, .c (.sc (.int .i64 n))), (5, .rf 25000 []), (26, .c (.sl true 5 (edts true l))), (27, .c (.sc (.int .i64 (l.length : Int)))), (28, .c (.sc (.int .i64 (i : Int))))] [(25000, .sv (.sl false 1 (ints (cts l n i))))]) (Ih1Q l n i h) := by
  have e1 : wrap64 ((i : Int) + 1) = ((i + 1 : Nat) : Int) := by rw [w64 (by omega) (by omega)]; omega
  have e2 : wrap64 (n - 1) = n - 1 := w64 (by omega) (by omega)
  have e3 : wrap64 ((i : Int) - 1) = (j : Int) := by rw [w64 (by omega) (by omega)]; omega
  have hi0 : 0 < i := by omega
  have hcn : ¬ 0 ≤ cmpE l[j] l[i] := by omega
  have hR : inR 0 (n - 1) (T : Int) = true := inR_iff.2 ⟨by omega, hTn⟩
  have hb : Hd (¬ (St1 l n i h ∧ Fl l[i] n)) := fun hh => by have := hh.1.2.2; rw [hT] at this; exact hct this
  have hTl : T < (cts l n i).length := by simp; omega
  have hat : (cts l n i)[T] = ((cntE (l.take i) (T : Int) : Nat) : Int) := cts_at _ _ _ _ _
  have hcn24 : cntE (l.take i) (T : Int) ≤ 24 := by have := cntE_le (l.take i) T; have := List.length_take_le i l; omega
  generalize hcl : cts l n i = cl at *
  generalize cntE (l.take i) (T : Int) = c at *
  clear hcl
  obtain ⟨c1, hc1⟩ : ∃ c1, (c : Int) + 1 = c1 := ⟨_, rfl⟩
  have e4 : wrap64 ((c : Int) + 1) = c1 := by rw [w64 (by omega) (by omega)]; exact hc1
  have cc := c_impl_compareEdits l[j] l[i]
  generalize cmpE l[j] l[i] = z at *
  obtain ⟨hW1, hW2, hW3⟩ := hW
  obtain ⟨tm, ct, ck, it, tx, he⟩ : ∃ tm ct ck it tx, l[i] = ⟨tm, ct, ck, it, tx⟩ := ⟨_, _, _, _, _, rfl⟩
  rw [he] at hT hW1 hW2 hct cc
  simp only at hT hW1 hW2 hct
  subst hT
  rw [hc1] at hct
  clear hc hI
  clear hc1
  repeat' (first | with_reducible refine OutOK.done ?_ | refine thenQ_n ?_ | refine thenQ_r ?_ | refine thenQ_e ?_ | refine AW.seq ?_ | refine AW.dreg tok mixed [15, 25, 26, 27, 28]  [(0, false), (2, false), (3, false), (1, false), (4, false), (5, false), (6, false), (7, false), (8, false), (9, false), (10, false), (11, false), (12, false), (13, false), (14, false), (15, true), (16, false), (17, false), (18, false), (19, false), (20, false), (21, false), (23, false), (24, false), (22, false), (25, true), (26, true), (27, true), (28, true), (29, false), (30, false)] (by decide +kernel) rfl (by simp [*]; rfl) ?_ | refine AW.dreg tok mixed [9, 13]  [(0, false), (3, false), (1, false), (2, false), (4, false), (5, false), (6, false), (8, false), (12, false), (7, false), (9, true), (10, false), (11, false), (13, true), (14, false), (15, false), (16, false), (17, false), (18, false), (19, false), (20, false), (21, false), (22, false), (23, false), (24, false), (25, false), (26, false), (27, false)] (by decide +kernel) rfl (by simp [*]; rfl) ?_ | refine AW.reg tok (by simp [*]; rfl) ?_ | refine AW.ifB (by simp [*]; rfl) ?_ | refine IfG.t ?_ | refine IfG.f ?_ | (refine IfG.p (fun hg => ?_) (fun hg => ?_) <;> (try (have hg' := hg; simp at hg'))) | (refine IfG.n (fun hg => ?_) (fun hg => ?_) <;> (try (have hg' := hg; simp at hg'))) | (refine OutOK.gateP (fun hg => ?_) (fun hg => ?_) <;> (try (have hg' := hg; simp at hg'))) | (refine OutOK.gateN (fun hg => ?_) (fun hg => ?_) <;> (try (have hg' := hg; simp at hg'))) | (refine IfG.g (fun hg => ?_) (fun hg => ?_) <;> (try (have hg' := hg; simp at hg'))) | (refine OutOK.gate (fun hg => ?_) (fun hg => ?_) <;> (try (have hg' := hg; simp at hg'))) | (refine OutOK.callF [] (by simp [*]; rfl) (by simp [*]; rfl) (by simp [*]; rfl) hb59 (by apply c_impl_within <;> first | assumption | exact Hd.out (by assumption) | ((try (clear e0)); (try (clear e1)); (try (clear e2)); (try (clear e3)); (try (clear e4)); (try (clear e5)); (try (clear e6)); (try (clear e7)); (try (clear e8)); (try (clear e9)); (try (clear e10)); (try (clear e11)); omega)) ⟨by simp [*], by simp [*], by simp [*], by simp [*], by simp [*]⟩ (by simp [*]) (by simp [*]; rfl) ?_) | (refine OutOK.callF [] (by simp [*]; rfl) (by simp [*]; rfl) (by simp [*]; rfl) hb76 (by apply cc <;> first | assumption | exact Hd.out (by assumption) | ((try (clear e0)); (try (clear e1)); (try (clear e2)); (try (clear e3)); (try (clear e4)); (try (clear e5)); (try (clear e6)); (try (clear e7)); (try (clear e8)); (try (clear e9)); (try (clear e10)); (try (clear e11)); omega)) ⟨by simp [*], by simp [*], by simp [*], by simp [*], by simp [*]⟩ (by simp [*]) (by simp [*]; rfl) ?_) | refine OutOK.run (by simp [*]; rfl) ?_ | refine AW.ret ?_ | refine AW.skip ?_ | refine AW.exit ?_ | refine fin_r ?_ | refine fin_n ?_ | refine AW.block ?_ | refine blockQ_n ?_ | refine blockQ_r ?_ | refine blockQ_e ?_ | refine blockQ_o rfl ?_)
  exact .inl ⟨rfl, hb.out, by simp [Try.f26]⟩
theorem w_ih1k1 (l : List Edt) (n : Int) (i : Nat) (h : i < l.length) (hl : l.length ≤ 24) (h1 : 1 ≤ n) (h3 : n ≤ 3) (hW : EdtW l[i]) (j : Nat) (hj : j < l.length) (hI : i = j + 1) (T : Nat) (hT : l[i].tm = T) (hTn : (T : Int) ≤ n - 1) (hc : cmpE l[j] l[i] < 0) (hct : l[i].ct = (cntE (l.take i) (T : Int) : Int) + 1) : AW Try.prog 152 (cAt Try.f26 [2, 2, 2, 1, 2, 5, 7]) (mk [(0, .c (.sl true 5 (edts true l))), (1, .c (.sc (.int .i64 n))), (5, .rf 25000 []), (26, .c (.sl true 5 (edts true l))), (27, .c (.sc (.int .i64 (l.length : Int)))), (28, .c (.sc (.int .i64 (i : Int))))] [(25000, .sv (.sl false 1 (ints (cts l n i))))]) (Ih1Q l n i h) := by
  have e1 : wrap64 ((i : Int) + 1) = ((i + 1 : Nat) : Int) := by rw [w64 (by omega) (by omega)]; omega
  have e2 : wrap64 (n - 1) = n - 1 := w64 (by omega) (by omega)
  have e3 : wrap64 ((i : Int) - 1) = (j : Int) := by rw [w64 (by omega) (by omega)]; omega
  have hi0 : 0 < i := by omega
  have hcn : ¬ 0 ≤ cmpE l[j] l[i] := by omega
  have hR : inR 0 (n - 1) (T : Int) = true := inR_iff.2 ⟨by omega, hTn⟩
  have hb : Hd (St1 l n i h) := ⟨by rw [hT]; exact hR, fun q hq e => by
    have : q = j := by omega
    subst this; exact hc, by rw [hT]; exact hct⟩
  have hset : Hd ((cts l n i).set T (((cntE (l.take i) (T : Int) : Nat) : Int) + 1) = cts l n (i + 1)) := cts_step l n i T h hT
  have hge : Hd (Fl l[i] n = Fl l[i] n) := rfl
  have hTl : T < (cts l n i).length := by simp; omega
  have hat : (cts l n i)[T] = ((cntE (l.take i) (T : Int) : Nat) : Int) := cts_at _ _ _ _ _
  have hcn24 : cntE (l.take i) (T : Int) ≤ 24 := by have := cntE_le (l.take i) T; have := List.length_take_le i l; omega
  generalize hcl : cts l n i = cl at *
  generalize cntE (l.take i) (T : Int) = c at *
  clear hcl
  obtain ⟨c1, hc1⟩ : ∃ c1, (c : Int) + 1 = c1 := ⟨_, rfl⟩
  have e4 : wrap64 ((c : Int) + 1) = c1 := by rw [w64 (by omega) (by omega)]; exact hc1
  rw [hc1] at hset
  have cc := c_impl_compareEdits l[j] l[i]
  generalize cmpE l[j] l[i] = z at *
  obtain ⟨hW1, hW2, hW3⟩ := hW
  obtain ⟨tm, ct, ck, it, tx, he⟩ : ∃ tm ct ck it tx, l[i] = ⟨tm, ct, ck, it, tx⟩ := ⟨_, _, _, _, _, rfl⟩
  rw [he] at hT hW1 hW2 hct cc
  simp only at hT hW1 hW2 hct
  subst hT
  rw [hc1] at hct
  clear hc hI
  subst hct
  clear hc1
  have hB := w_ihB l n i (cl.set T ct) T ct ck it tx hW1 hW2 hTn
  have he' : Hd _ := he
  have hn' : Hd (Fl ⟨(T : Int), ct, ck, it, tx⟩ n = Fl l[i] n) := by rw [he]; rfl
  repeat' (first | with_reducible refine AW.stopR 10 ?_ | with_reducible refine OutOK.done ?_ | refine thenQ_n ?_ | refine thenQ_r ?_ | refine thenQ_e ?_ | refine AW.seq ?_ | refine AW.dreg tok mixed [15, 25, 26, 27, 28]  [(0, false), (2, false), (3, false), (1, false), (4, false), (5, false), (6, false), (7, false), (8, false), (9, false), (10, false), (11, false), (12, false), (13, false), (14, false), (15, true), (16, false), (17, false), (18, false), (19, false), (20, false), (21, false), (23, false), (24, false), (22, false), (25, true), (26, true), (27, true), (28, true), (29, false), (30, false)] (by decide +kernel) rfl (by simp [*]; rfl) ?_ | refine AW.dreg tok mixed [9, 13]  [(0, false), (3, false), (1, false), (2, false), (4, false), (5, false), (6, false), (8, false), (12, false), (7, false), (9, true), (10, false), (11, false), (13, true), (14, false), (15, false), (16, false), (17, false), (18, false), (19, false), (20, false), (21, false), (22, false), (23, false), (24, false), (25, false), (26, false), (27, false)] (by decide +kernel) rfl (by simp [*]; rfl) ?_ | refine AW.reg tok (by simp [*]; rfl) ?_ | refine AW.ifB (by simp [*]; rfl) ?_ | refine IfG.t ?_ | refine IfG.f ?_ | (refine IfG.p (fun hg => ?_) (fun hg => ?_) <;> (try (have hg' := hg; simp at hg'))) | (refine IfG.n (fun hg => ?_) (fun hg => ?_) <;> (try (have hg' := hg; simp at hg'))) | (refine OutOK.gateP (fun hg => ?_) (fun hg => ?_) <;> (try (have hg' := hg; simp at hg'))) | (refine OutOK.gateN (fun hg => ?_) (fun hg => ?_) <;> (try (have hg' := hg; simp at hg'))) | (refine IfG.g (fun hg => ?_) (fun hg => ?_) <;> (try (have hg' := hg; simp at hg'))) | (refine OutOK.gate (fun hg => ?_) (fun hg => ?_) <;> (try (have hg' := hg; simp at hg'))) | (refine OutOK.callF [] (by simp [*]; rfl) (by simp [*]; rfl) (by simp [*]; rfl) hb59 (by apply c_impl_within <;> first | assumption | exact Hd.out (by assumption) | ((try (clear e0)); (try (clear e1)); (try (clear e2)); (try (clear e3)); (try (clear e4)); (try (clear e5)); (try (clear e6)); (try (clear e7)); (try (clear e8)); (try (clear e9)); (try (clear e10)); (try (clear e11)); omega)) ⟨by simp [*], by simp [*], by simp [*], by simp [*], by simp [*]⟩ (by simp [*]) (by simp [*]; rfl) ?_) | (refine OutOK.callF [] (by simp [*]; rfl) (by simp [*]; rfl) (by simp [*]; rfl) hb76 (by apply cc <;> first | assumption | exact Hd.out (by assumption) | ((try (clear e0)); (try (clear e1)); (try (clear e2)); (try (clear e3)); (try (clear e4)); (try (clear e5)); (try (clear e6)); (try (clear e7)); (try (clear e8)); (try (clear e9)); (try (clear e10)); (try (clear e11)); omega)) ⟨by simp [*], by simp [*], by simp [*], by simp [*], by simp [*]⟩ (by simp [*]) (by simp [*]; rfl) ?_) | refine OutOK.run (by simp [*]; rfl) ?_ | refine AW.ret ?_ | refine AW.skip ?_ | refine AW.exit ?_ | refine fin_r ?_ | refine fin_n ?_ | refine AW.block ?_ | refine blockQ_n ?_ | refine blockQ_r ?_ | refine blockQ_e ?_ | refine blockQ_o rfl ?_)
  refine Hold.via hB ⟨by simp, by simp, by simp⟩ (fun e st hq => ?_)
  rcases hq with ⟨rfl, hq1, hq⟩ | ⟨rfl, hq1, hq⟩
  · exact .inl ⟨rfl, fun hh => hq1 (by rw [hn'.out]; exact hh.2), hq⟩
  · refine AW.forget _ _ hq ?_
    rw [hn'.out] at hq1
    rw [hset.out]
    clear hq
    repeat' (first | with_reducible refine OutOK.done ?_ | refine thenQ_n ?_ | refine thenQ_r ?_ | refine thenQ_e ?_ | refine AW.seq ?_ | refine AW.dreg tok mixed [15, 25, 26, 27, 28]  [(0, false), (2, false), (3, false), (1, false), (4, false), (5, false), (6, false), (7, false), (8, false), (9, false), (10, false), (11, false), (12, false), (13, false), (14, false), (15, true), (16, false), (17, false), (18, false), (19, false), (20, false), (21, false), (23, false), (24, false), (22, false), (25, true), (26, true), (27, true), (28, true), (29, false), (30, false)] (by decide +kernel) rfl (by simp [*]; rfl) ?_ | refine AW.dreg tok mixed [9, 13]  [(0, false), (3, false), (1, false), (2, false), (4, false), (5, false), (6, false), (8, false), (12, false), (7, false), (9, true), (10, false), (11, false), (13, true), (14, false), (15, false), (16, false), (17, false), (18, false), (19, false), (20, false), (21, false), (22, false), (23, false), (24, false), (25, false), (26, false), (27, false)] (by decide +kernel) rfl (by simp [*]; rfl) ?_ | refine AW.reg tok (by simp [*]; rfl) ?_ | refine AW.ifB (by simp [*]; rfl) ?_ | refine IfG.t ?_ | refine IfG.f ?_ | (refine IfG.p (fun hg => ?_) (fun hg => ?_) <;> (try (have hg' := hg; simp at hg'))) | (refine IfG.n (fun hg => ?_) (fun hg => ?_) <;> (try (have hg' := hg; simp at hg'))) | (refine OutOK.gateP (fun hg => ?_) (fun hg => ?_) <;> (try (have hg' := hg; simp at hg'))) | (refine OutOK.gateN (fun hg => ?_) (fun hg => ?_) <;> (try (have hg' := hg; simp at hg'))) | (refine IfG.g (fun hg => ?_) (fun hg => ?_) <;> (try (have hg' := hg; simp at hg'))) | (refine OutOK.gate (fun hg => ?_) (fun hg => ?_) <;> (try (have hg' := hg; simp at hg'))) | refine OutOK.run (by simp [*]; rfl) ?_ | refine AW.ret ?_ | refine AW.skip ?_ | refine AW.exit ?_ | refine fin_r ?_ | refine fin_n ?_ | refine AW.block ?_ | refine blockQ_n ?_ | refine blockQ_r ?_ | refine blockQ_e ?_ | refine blockQ_o rfl ?_)
    exact .inr ⟨rfl, ⟨hb.out, hq1⟩, by simp, by simp, by simp⟩
theorem w_ih1 (l : List Edt) (n : Int) (i : Nat) (h : i < l.length) (hl : l.length ≤ 24) (h1 : 1 ≤ n) (h3 : n ≤ 3) (hW : EdtW l[i]) : AW Try.prog 152 (cAt Try.f26 [2, 2, 2, 1, 2, 5, 7]) (mk [(0, .c (.sl true 5 (edts true l))), (1, .c (.sc (.int .i64 n))), (5, .rf 25000 []), (26, .c (.sl true 5 (edts true l))), (27, .c (.sc (.int .i64 (l.length : Int)))), (28, .c (.sc (.int .i64 (i : Int))))] [(25000, .sv (.sl false 1 (ints (cts l n i))))]) (Ih1Q l n i h) := by
  cases hR : inR 0 (n - 1) l[i].tm with
  | false => exact w_ih1a l n i h hl h1 h3 hW hR
  | true =>
    have hr := inR_iff.1 hR
    obtain ⟨T, hT⟩ : ∃ T : Nat, l[i].tm = (T : Int) := ⟨l[i].tm.toNat, by omega⟩
    have hTn : (T : Int) ≤ n - 1 := by omega
    have hor : i = 0 ∨ (∃ j, ∃ hj : j < l.length, i = j + 1 ∧ 0 ≤ cmpE l[j] l[i]) ∨ (∃ j, ∃ hj : j < l.length, i = j + 1 ∧ cmpE l[j] l[i] < 0) := by
      rcases i with _ | j
      · exact .inl rfl
      · rcases Int.lt_or_le (cmpE (l[j]'(by omega)) l[j + 1]) 0 with h2 | h2
        · exact .inr (.inr ⟨j, by omega, rfl, h2⟩)
        · exact .inr (.inl ⟨j, by omega, rfl, h2⟩)
    rcases hor with h0 | ⟨j, hj, hI, hc⟩ | ⟨j, hj, hI, hc⟩
    · by_cases hct : l[i].ct = (cntE (l.take i) (T : Int) : Int) + 1
      · exact w_ih1k0 l n i h hl h1 h3 hW T hT hTn h0 hct
      · exact w_ih1c0 l n i h hl h1 h3 hW T hT hTn h0 hct
    · exact w_ih1b l n i h hl h1 h3 hW j hj hI hR hc
    · by_cases hct : l[i].ct = (cntE (l.take i) (T : Int) : Int) + 1
      · exact w_ih1k1 l n i h hl h1 h3 hW j hj hI T hT hTn hc hct
      · exact w_ih1c1 l n i h hl h1 h3 hW j hj hI T hT hTn hc hct
end Go.Proofs.Ytbofobjofngoeaa.EngS

