-- Written by this session's texts and program for this claim. Lean checks it.
import Derived.Test.YtodombkmnnggeaaVFnExactSearchItems4
set_option autoImplicit true
set_option relaxedAutoImplicit true
set_option linter.unusedSimpArgs false
set_option linter.unusedVariables false
set_option maxHeartbeats 4000000
set_option maxRecDepth 100000
namespace Go.Proofs.Ytodombkmnnggeaa.EngS
open Go Go.Proofs Go.Eng Go.RowKit
theorem c_laws_eqStringS (l : List ByteArray) (h : l.length < 9223372036854775807) : ACall Try.prog 52 [.v (.sl true 1 (strs l)), .v (.sl true 1 (strs l))] [.x, .x] [boo true] := by
  refine ACall.of (N := 26) tok Try.func52 rfl rfl rfl (by simp) ?_
  repeat' (first | with_reducible refine OutOK.done ?_ | refine thenQ_n ?_ | refine thenQ_r ?_ | refine thenQ_e ?_ | refine AW.seq ?_ | refine AW.dreg tok mixed [7]  [(0, false), (1, false), (2, false), (4, false), (5, false), (6, false), (3, false), (7, true), (8, false)] (by decide +kernel) rfl (by simp [*]; rfl) ?_ | refine AW.reg tok (by simp [*]; rfl) ?_ | refine AW.ifB (by simp [*]; rfl) ?_ | refine IfG.t ?_ | refine IfG.f ?_ | (refine IfG.p (fun hg => ?_) (fun hg => ?_) <;> (try (have hg' := hg; simp at hg'))) | (refine IfG.n (fun hg => ?_) (fun hg => ?_) <;> (try (have hg' := hg; simp at hg'))) | (refine OutOK.gateP (fun hg => ?_) (fun hg => ?_) <;> (try (have hg' := hg; simp at hg'))) | (refine OutOK.gateN (fun hg => ?_) (fun hg => ?_) <;> (try (have hg' := hg; simp at hg'))) | (refine IfG.g (fun hg => ?_) (fun hg => ?_) <;> (try (have hg' := hg; simp at hg'))) | (refine OutOK.gate (fun hg => ?_) (fun hg => ?_) <;> (try (have hg' := hg; simp at hg'))) | refine OutOK.run (by simp [*]; rfl) ?_ | refine AW.ret ?_ | refine AW.skip ?_ | refine AW.exit ?_ | refine fin_r ?_ | refine fin_n ?_ | refine AW.block ?_ | refine blockQ_n ?_ | refine blockQ_r ?_ | refine blockQ_e ?_ | refine blockQ_o rfl ?_)
  refine AW.loopL (fun i => i ≤ l.length) (fun i => [(0, .c (.sl true 1 (strs l))), (1, .c (.sl true 1 (strs l))), (5, .c (.sc (.int .i64 (i : Int))))]) (fun _ => []) (fun i => l.length - i) 0 (Nat.zero_le _) ⟨by simp, by simp, by simp⟩ ?_
  intro i hi
  rcases Nat.lt_or_ge i l.length with hl | hl
  · have e1 : wrap64 ((i : Int) + 1) = ((i + 1 : Nat) : Int) := by rw [w64 (by omega) (by omega)]; omega
    repeat' (first | with_reducible refine OutOK.done ?_ | refine thenQ_n ?_ | refine thenQ_r ?_ | refine thenQ_e ?_ | refine AW.seq ?_ | refine AW.dreg tok mixed [7]  [(0, false), (1, false), (2, false), (4, false), (5, false), (6, false), (3, false), (7, true), (8, false)] (by decide +kernel) rfl (by simp [*]; rfl) ?_ | refine AW.reg tok (by simp [*]; rfl) ?_ | refine AW.ifB (by simp [*]; rfl) ?_ | refine IfG.t ?_ | refine IfG.f ?_ | (refine IfG.p (fun hg => ?_) (fun hg => ?_) <;> (try (have hg' := hg; simp at hg'))) | (refine IfG.n (fun hg => ?_) (fun hg => ?_) <;> (try (have hg' := hg; simp at hg'))) | (refine OutOK.gateP (fun hg => ?_) (fun hg => ?_) <;> (try (have hg' := hg; simp at hg'))) | (refine OutOK.gateN (fun hg => ?_) (fun hg => ?_) <;> (try (have hg' := hg; simp at hg'))) | (refine IfG.g (fun hg => ?_) (fun hg => ?_) <;> (try (have hg' := hg; simp at hg'))) | (refine OutOK.gate (fun hg => ?_) (fun hg => ?_) <;> (try (have hg' := hg; simp at hg'))) | refine OutOK.run (by simp [*]; rfl) ?_ | refine AW.ret ?_ | refine AW.skip ?_ | refine AW.exit ?_ | refine fin_r ?_ | refine fin_n ?_ | refine AW.block ?_ | refine blockQ_n ?_ | refine blockQ_r ?_ | refine blockQ_e ?_ | refine blockQ_o rfl ?_)
    exact ⟨i + 1, hl, ⟨by simp, by simp, by simp⟩, by ((try (clear e0)); (try (clear e1)); (try (clear e2)); (try (clear e3)); (try (clear e4)); (try (clear e5)); (try (clear e6)); (try (clear e7)); (try (clear e8)); (try (clear e9)); (try (clear e10)); (try (clear e11)); omega)⟩
  · have hn : ¬ i < l.length := by omega
    repeat' (first | with_reducible refine OutOK.done ?_ | refine thenQ_n ?_ | refine thenQ_r ?_ | refine thenQ_e ?_ | refine AW.seq ?_ | refine AW.dreg tok mixed [7]  [(0, false), (1, false), (2, false), (4, false), (5, false), (6, false), (3, false), (7, true), (8, false)] (by decide +kernel) rfl (by simp [*]; rfl) ?_ | refine AW.reg tok (by simp [*]; rfl) ?_ | refine AW.ifB (by simp [*]; rfl) ?_ | refine IfG.t ?_ | refine IfG.f ?_ | (refine IfG.p (fun hg => ?_) (fun hg => ?_) <;> (try (have hg' := hg; simp at hg'))) | (refine IfG.n (fun hg => ?_) (fun hg => ?_) <;> (try (have hg' := hg; simp at hg'))) | (refine OutOK.gateP (fun hg => ?_) (fun hg => ?_) <;> (try (have hg' := hg; simp at hg'))) | (refine OutOK.gateN (fun hg => ?_) (fun hg => ?_) <;> (try (have hg' := hg; simp at hg'))) | (refine IfG.g (fun hg => ?_) (fun hg => ?_) <;> (try (have hg' := hg; simp at hg'))) | (refine OutOK.gate (fun hg => ?_) (fun hg => ?_) <;> (try (have hg' := hg; simp at hg'))) | refine OutOK.run (by simp [*]; rfl) ?_ | refine AW.ret ?_ | refine AW.skip ?_ | refine AW.exit ?_ | refine fin_r ?_ | refine fin_n ?_ | refine AW.block ?_ | refine blockQ_n ?_ | refine blockQ_r ?_ | refine blockQ_e ?_ | refine blockQ_o rfl ?_)
    all_goals (try simp [*, Try.f52])
def mkT (n : Nat) : ByteArray := ⟨#[109]⟩ ++ figs n ⟨#[]⟩
def upS (k n : Nat) : List ByteArray := (List.range n).map fun j => mkT (k + j)
theorem upS_len (k n : Nat) : (upS k n).length = n := by simp [upS]
def mkd (k : Nat) (xs : List ByteArray) (i : Nat) : List ByteArray := upS k i ++ xs.drop i
theorem mkd_len (k : Nat) (xs : List ByteArray) (i : Nat) (h : i ≤ xs.length) : (mkd k xs i).length = xs.length := by simp [mkd, upS_len]; omega
theorem mkd_zero (k : Nat) (xs : List ByteArray) : mkd k xs 0 = xs := by simp [mkd, upS]
theorem mkd_all (k : Nat) (xs : List ByteArray) : mkd k xs xs.length = upS k xs.length := by simp [mkd]
theorem mkd_step (k : Nat) (xs : List ByteArray) (i : Nat) (h : i < xs.length) : (mkd k xs i).set i (mkT (k + i)) = mkd k xs (i + 1) := by
  rw [mkd, mkd, List.drop_eq_getElem_cons h, List.set_append_right _ _ (by rw [upS_len]; omega), upS_len]
  simp only [Nat.sub_self, List.set_cons_zero, upS, List.range_succ, List.map_append, List.map_cons, List.map_nil, List.append_assoc, List.singleton_append]
@[simp] theorem strs_set (l : List ByteArray) (i : Nat) (a : ByteArray) : (strs l).set i (.sc (.string a)) = strs (l.set i a) := by simp [strs, List.map_set]
theorem c_laws_markT (k : Nat) (h : k ≠ 0) (h1 : k ≤ 1000000000000) : ACall Try.prog 87 [int k] [.x] [.v (.sc (.string (mkT k)))] := c_laws_markText k h h1
theorem c_laws_markStringS (xs : List ByteArray) (k : Nat) (h : xs.length ≤ 1048576) (h1 : 0 < k) (h2 : k ≤ 100000000) : ACall Try.prog 53 [.v (.sl false 1 (strs xs)), int k] [.v (.sl false 1 (strs (upS k xs.length))), .x] [int ((k + xs.length : Nat) : Int)] := by
  refine ACall.of (N := 20) tok Try.func53 rfl rfl rfl (by simp) ?_
  repeat' (first | with_reducible refine OutOK.done ?_ | refine thenQ_n ?_ | refine thenQ_r ?_ | refine thenQ_e ?_ | refine AW.seq ?_ | refine AW.reg tok (by simp [*]; rfl) ?_ | refine AW.ifB (by simp [*]; rfl) ?_ | refine IfG.t ?_ | refine IfG.f ?_ | (refine IfG.p (fun hg => ?_) (fun hg => ?_) <;> (try (have hg' := hg; simp at hg'))) | (refine IfG.n (fun hg => ?_) (fun hg => ?_) <;> (try (have hg' := hg; simp at hg'))) | (refine OutOK.gateP (fun hg => ?_) (fun hg => ?_) <;> (try (have hg' := hg; simp at hg'))) | (refine OutOK.gateN (fun hg => ?_) (fun hg => ?_) <;> (try (have hg' := hg; simp at hg'))) | (refine IfG.g (fun hg => ?_) (fun hg => ?_) <;> (try (have hg' := hg; simp at hg'))) | (refine OutOK.gate (fun hg => ?_) (fun hg => ?_) <;> (try (have hg' := hg; simp at hg'))) | refine OutOK.run (by simp [*]; rfl) ?_ | refine AW.ret ?_ | refine AW.skip ?_ | refine AW.exit ?_ | refine fin_r ?_ | refine fin_n ?_ | refine AW.block ?_ | refine blockQ_n ?_ | refine blockQ_r ?_ | refine blockQ_e ?_ | refine blockQ_o rfl ?_)
  refine AW.loopL (fun i => i ≤ xs.length) (fun i => [(0, .rf 100000000 []), (1, .c (.sc (.int .i64 ((k + i : Nat) : Int)))), (5, .c (.sc (.int .i64 (i : Int))))]) (fun i => [(100000000, .sv (.sl false 1 (strs (mkd k xs i))))]) (fun i => xs.length - i) 0 (Nat.zero_le _) ⟨by simp, by simp [mkd_zero], by simp⟩ ?_
  intro i hi
  rcases Nat.lt_or_ge i xs.length with hl | hl
  · have e1 : wrap64 ((i : Int) + 1) = ((i + 1 : Nat) : Int) := by rw [w64 (by omega) (by omega)]; omega
    have hd := mkd_step k xs i hl
    have hlm : i < (mkd k xs i).length := by rw [mkd_len k xs i hi]; exact hl
    obtain ⟨K, hK⟩ : ∃ K, K = k + i := ⟨_, rfl⟩
    rw [← hK] at hd ⊢
    have e2 : wrap64 ((K : Int) + 1) = ((K + 1 : Nat) : Int) := by rw [w64 (by clear e1; omega) (by clear e1; omega)]; clear e1; omega
    have ct := c_laws_markT K (by omega) (by clear e1 e2; omega)
    have hK' : Hd (K + 1 = k + (i + 1)) := by rw [Hd, hK]; rfl
    clear hK
    generalize mkT K = T at *
    generalize hM : mkd k xs i = M at *
    generalize hM2 : mkd k xs (i + 1) = M2 at *
    replace hd : Hd _ := hd
    have hM2' : Hd _ := hM2
    clear hM hM2
    repeat' (first | with_reducible refine OutOK.done ?_ | refine thenQ_n ?_ | refine thenQ_r ?_ | refine thenQ_e ?_ | refine AW.seq ?_ | refine AW.reg tok (by simp [*]; rfl) ?_ | refine AW.ifB (by simp [*]; rfl) ?_ | refine IfG.t ?_ | refine IfG.f ?_ | (refine IfG.p (fun hg => ?_) (fun hg => ?_) <;> (try (have hg' := hg; simp at hg'))) | (refine IfG.n (fun hg => ?_) (fun hg => ?_) <;> (try (have hg' := hg; simp at hg'))) | (refine OutOK.gateP (fun hg => ?_) (fun hg => ?_) <;> (try (have hg' := hg; simp at hg'))) | (refine OutOK.gateN (fun hg => ?_) (fun hg => ?_) <;> (try (have hg' := hg; simp at hg'))) | (refine IfG.g (fun hg => ?_) (fun hg => ?_) <;> (try (have hg' := hg; simp at hg'))) | (refine OutOK.gate (fun hg => ?_) (fun hg => ?_) <;> (try (have hg' := hg; simp at hg'))) | (refine OutOK.callF [] (by simp [*]; rfl) (by simp [*]; rfl) (by simp [*]; rfl) hb87 (by apply ct <;> first | assumption | exact Hd.out (by assumption) | ((try (clear e0)); (try (clear e1)); (try (clear e2)); (try (clear e3)); (try (clear e4)); (try (clear e5)); (try (clear e6)); (try (clear e7)); (try (clear e8)); (try (clear e9)); (try (clear e10)); (try (clear e11)); omega)) ⟨by simp [*], by simp [*], by simp [*], by simp [*], by simp [*]⟩ (by simp [*]) (by simp [*]; rfl) ?_) | refine OutOK.run (by simp [*]; rfl) ?_ | refine AW.ret ?_ | refine AW.skip ?_ | refine AW.exit ?_ | refine fin_r ?_ | refine fin_n ?_ | refine AW.block ?_ | refine blockQ_n ?_ | refine blockQ_r ?_ | refine blockQ_e ?_ | refine blockQ_o rfl ?_)
    exact ⟨i + 1, hl, ⟨by simp [← hK'.out], by simp [hd.out, hM2'.out], by simp⟩, by ((try (clear e0)); (try (clear e1)); (try (clear e2)); (try (clear e3)); (try (clear e4)); (try (clear e5)); (try (clear e6)); (try (clear e7)); (try (clear e8)); (try (clear e9)); (try (clear e10)); (try (clear e11)); omega)⟩
  · have hx : i = xs.length := by omega
    subst hx
    rw [mkd_all]
    have hul := upS_len k xs.length
    generalize upS k xs.length = U at *
    have hul' : ¬ xs.length < U.length := by omega
    repeat' (first | with_reducible refine OutOK.done ?_ | refine thenQ_n ?_ | refine thenQ_r ?_ | refine thenQ_e ?_ | refine AW.seq ?_ | refine AW.reg tok (by simp [*]; rfl) ?_ | refine AW.ifB (by simp [*]; rfl) ?_ | refine IfG.t ?_ | refine IfG.f ?_ | (refine IfG.p (fun hg => ?_) (fun hg => ?_) <;> (try (have hg' := hg; simp at hg'))) | (refine IfG.n (fun hg => ?_) (fun hg => ?_) <;> (try (have hg' := hg; simp at hg'))) | (refine OutOK.gateP (fun hg => ?_) (fun hg => ?_) <;> (try (have hg' := hg; simp at hg'))) | (refine OutOK.gateN (fun hg => ?_) (fun hg => ?_) <;> (try (have hg' := hg; simp at hg'))) | (refine IfG.g (fun hg => ?_) (fun hg => ?_) <;> (try (have hg' := hg; simp at hg'))) | (refine OutOK.gate (fun hg => ?_) (fun hg => ?_) <;> (try (have hg' := hg; simp at hg'))) | refine OutOK.run (by simp [*]; rfl) ?_ | refine AW.ret ?_ | refine AW.skip ?_ | refine AW.exit ?_ | refine fin_r ?_ | refine fin_n ?_ | refine AW.block ?_ | refine blockQ_n ?_ | refine blockQ_r ?_ | refine blockQ_e ?_ | refine blockQ_o rfl ?_)
    simp [Try.f53]
theorem c_laws_heldStringS (n k : Nat) (h : n ≤ 1048576) (h1 : 0 < k) (h2 : k ≤ 100000000) : ACall Try.prog 54 [.v (.sl true 1 (strs (upS k n))), int k] [.x, .x] [int ((k + n : Nat) : Int)] := by
  have hul := upS_len k n
  have hg : Hd (∀ i (hi : i < (upS k n).length), (upS k n)[i] = mkT (k + i)) := by intro i hi; simp [upS]
  generalize upS k n = U at *
  subst hul
  refine ACall.of (N := 22) tok Try.func54 rfl rfl rfl (by simp) ?_
  repeat' (first | with_reducible refine OutOK.done ?_ | refine thenQ_n ?_ | refine thenQ_r ?_ | refine thenQ_e ?_ | refine AW.seq ?_ | refine AW.dreg tok mixed [5]  [(0, false), (1, false), (2, false), (4, false), (3, false), (5, true), (6, false)] (by decide +kernel) rfl (by simp [*]; rfl) ?_ | refine AW.reg tok (by simp [*]; rfl) ?_ | refine AW.ifB (by simp [*]; rfl) ?_ | refine IfG.t ?_ | refine IfG.f ?_ | (refine IfG.p (fun hg => ?_) (fun hg => ?_) <;> (try (have hg' := hg; simp at hg'))) | (refine IfG.n (fun hg => ?_) (fun hg => ?_) <;> (try (have hg' := hg; simp at hg'))) | (refine OutOK.gateP (fun hg => ?_) (fun hg => ?_) <;> (try (have hg' := hg; simp at hg'))) | (refine OutOK.gateN (fun hg => ?_) (fun hg => ?_) <;> (try (have hg' := hg; simp at hg'))) | (refine IfG.g (fun hg => ?_) (fun hg => ?_) <;> (try (have hg' := hg; simp at hg'))) | (refine OutOK.gate (fun hg => ?_) (fun hg => ?_) <;> (try (have hg' := hg; simp at hg'))) | refine OutOK.run (by simp [*]; rfl) ?_ | refine AW.ret ?_ | refine AW.skip ?_ | refine AW.exit ?_ | refine fin_r ?_ | refine fin_n ?_ | refine AW.block ?_ | refine blockQ_n ?_ | refine blockQ_r ?_ | refine blockQ_e ?_ | refine blockQ_o rfl ?_)
  refine AW.loopL (fun i => i ≤ U.length) (fun i => [(0, .c (.sl true 1 (strs U))), (1, .c (.sc (.int .i64 ((k + i : Nat) : Int)))), (5, .c (.sc (.int .i64 (i : Int))))]) (fun i => []) (fun i => U.length - i) 0 (Nat.zero_le _) ⟨by simp, by simp, by simp⟩ ?_
  intro i hi
  rcases Nat.lt_or_ge i U.length with hl | hl
  · have e1 : wrap64 ((i : Int) + 1) = ((i + 1 : Nat) : Int) := by rw [w64 (by omega) (by omega)]; omega
    obtain ⟨K, hK⟩ : ∃ K, K = k + i := ⟨_, rfl⟩
    have e3 : U[i] = mkT K := by rw [hK]; exact hg.out i hl
    rw [← hK]
    have e2 : wrap64 ((K : Int) + 1) = ((K + 1 : Nat) : Int) := by rw [w64 (by clear e1; omega) (by clear e1; omega)]; clear e1; omega
    have ct := c_laws_markT K (by omega) (by clear e1 e2; omega)
    have hK' : Hd (K + 1 = k + (i + 1)) := by rw [Hd, hK]; rfl
    clear hK
    generalize mkT K = T at *
    repeat' (first | with_reducible refine OutOK.done ?_ | refine thenQ_n ?_ | refine thenQ_r ?_ | refine thenQ_e ?_ | refine AW.seq ?_ | refine AW.dreg tok mixed [5]  [(0, false), (1, false), (2, false), (4, false), (3, false), (5, true), (6, false)] (by decide +kernel) rfl (by simp [*]; rfl) ?_ | refine AW.reg tok (by simp [*]; rfl) ?_ | refine AW.ifB (by simp [*]; rfl) ?_ | refine IfG.t ?_ | refine IfG.f ?_ | (refine IfG.p (fun hg => ?_) (fun hg => ?_) <;> (try (have hg' := hg; simp at hg'))) | (refine IfG.n (fun hg => ?_) (fun hg => ?_) <;> (try (have hg' := hg; simp at hg'))) | (refine OutOK.gateP (fun hg => ?_) (fun hg => ?_) <;> (try (have hg' := hg; simp at hg'))) | (refine OutOK.gateN (fun hg => ?_) (fun hg => ?_) <;> (try (have hg' := hg; simp at hg'))) | (refine IfG.g (fun hg => ?_) (fun hg => ?_) <;> (try (have hg' := hg; simp at hg'))) | (refine OutOK.gate (fun hg => ?_) (fun hg => ?_) <;> (try (have hg' := hg; simp at hg'))) | (refine OutOK.callF [] (by simp [*]; rfl) (by simp [*]; rfl) (by simp [*]; rfl) hb87 (by apply ct <;> first | assumption | exact Hd.out (by assumption) | ((try (clear e0)); (try (clear e1)); (try (clear e2)); (try (clear e3)); (try (clear e4)); (try (clear e5)); (try (clear e6)); (try (clear e7)); (try (clear e8)); (try (clear e9)); (try (clear e10)); (try (clear e11)); omega)) ⟨by simp [*], by simp [*], by simp [*], by simp [*], by simp [*]⟩ (by simp [*]) (by simp [*]; rfl) ?_) | refine OutOK.run (by simp [*]; rfl) ?_ | refine AW.ret ?_ | refine AW.skip ?_ | refine AW.exit ?_ | refine fin_r ?_ | refine fin_n ?_ | refine AW.block ?_ | refine blockQ_n ?_ | refine blockQ_r ?_ | refine blockQ_e ?_ | refine blockQ_o rfl ?_)
    exact ⟨i + 1, hl, ⟨by simp [← hK'.out], by simp, by simp⟩, by ((try (clear e0)); (try (clear e1)); (try (clear e2)); (try (clear e3)); (try (clear e4)); (try (clear e5)); (try (clear e6)); (try (clear e7)); (try (clear e8)); (try (clear e9)); (try (clear e10)); (try (clear e11)); omega)⟩
  · have hx : i = U.length := by omega
    subst hx
    repeat' (first | with_reducible refine OutOK.done ?_ | refine thenQ_n ?_ | refine thenQ_r ?_ | refine thenQ_e ?_ | refine AW.seq ?_ | refine AW.dreg tok mixed [5]  [(0, false), (1, false), (2, false), (4, false), (3, false), (5, true), (6, false)] (by decide +kernel) rfl (by simp [*]; rfl) ?_ | refine AW.reg tok (by simp [*]; rfl) ?_ | refine AW.ifB (by simp [*]; rfl) ?_ | refine IfG.t ?_ | refine IfG.f ?_ | (refine IfG.p (fun hg => ?_) (fun hg => ?_) <;> (try (have hg' := hg; simp at hg'))) | (refine IfG.n (fun hg => ?_) (fun hg => ?_) <;> (try (have hg' := hg; simp at hg'))) | (refine OutOK.gateP (fun hg => ?_) (fun hg => ?_) <;> (try (have hg' := hg; simp at hg'))) | (refine OutOK.gateN (fun hg => ?_) (fun hg => ?_) <;> (try (have hg' := hg; simp at hg'))) | (refine IfG.g (fun hg => ?_) (fun hg => ?_) <;> (try (have hg' := hg; simp at hg'))) | (refine OutOK.gate (fun hg => ?_) (fun hg => ?_) <;> (try (have hg' := hg; simp at hg'))) | refine OutOK.run (by simp [*]; rfl) ?_ | refine AW.ret ?_ | refine AW.skip ?_ | refine AW.exit ?_ | refine fin_r ?_ | refine fin_n ?_ | refine AW.block ?_ | refine blockQ_n ?_ | refine blockQ_r ?_ | refine blockQ_e ?_ | refine blockQ_o rfl ?_)
    simp [Try.f54]
end Go.Proofs.Ytodombkmnnggeaa.EngS


set_option linter.unusedSimpArgs false
set_option linter.unusedVariables false
set_option maxHeartbeats 4000000
set_option maxRecDepth 100000
namespace Go.Proofs.Ytodombkmnnggeaa.EngS
open Go Go.Proofs Go.Eng Go.RowKit
abbrev EntX := Int × ByteArray × ByteArray
def entX (x : EntX) : Ent := ⟨x.1, x.2.1, x.2.2⟩
theorem ents_X (l : List EntX) : (l.map fun x => PV.ag [PV.sc (.int .i64 x.1), PV.sc (.string x.2.1), PV.sc (.string x.2.2)]) = ents (l.map entX) := by
  rw [ents, els, List.map_map]; rfl
theorem law_FnExactSearchItems (x : List EntX) (word : ByteArray) (hw : x.length ≤ maxLen ∧ ∀ y ∈ x, (Lit.int .i64 y.1).wf = true ∧ y.2.1.size ≤ maxLen ∧ y.2.2.size ≤ maxLen) (hi : word.size ≤ maxLen) :
  ACall Try.prog 14 [.v (.sl true 3 (x.map fun x => PV.ag [PV.sc (.int .i64 x.1), PV.sc (.string x.2.1), PV.sc (.string x.2.2)])), .v (.sc (.string word))] [.x, .x] [boo true] := by
  rw [ents_X]
  have hm : maxLen = 9223372036854775807 := rfl
  have h1 : (x.map entX).length ≤ 9223372036854775807 := by rw [List.length_map, ← hm]; exact hw.1
  have h2 : ∀ s ∈ x.map entX, EntW s := by
    intro s hs
    obtain ⟨y, hy, rfl⟩ := List.mem_map.1 hs
    exact ⟨(hw.2 y hy).2.1, (hw.2 y hy).2.2⟩
  rw [hm] at hi
  clear hw hm
  generalize x.map entX = l at *
  refine ACallX.one ?_
  by_cases hbig : 1048576 < (word.size : Int)
  · clear h2
    refine ACallX.of (N := 104) tok Try.func14 rfl rfl rfl (by simp) ?_
    repeat' (first | with_reducible refine OutOK.done ?_ | refine thenQ_n ?_ | refine thenQ_r ?_ | refine thenQ_e ?_ | refine AW.seq ?_ | refine AW.reg tok (by simp [*]; rfl) ?_ | refine AW.ifB (by simp [*]; rfl) ?_ | refine IfG.t ?_ | refine IfG.f ?_ | (refine IfG.p (fun hg => ?_) (fun hg => ?_) <;> (try (have hg' := hg; simp at hg'))) | (refine IfG.n (fun hg => ?_) (fun hg => ?_) <;> (try (have hg' := hg; simp at hg'))) | (refine OutOK.gateP (fun hg => ?_) (fun hg => ?_) <;> (try (have hg' := hg; simp at hg'))) | (refine OutOK.gateN (fun hg => ?_) (fun hg => ?_) <;> (try (have hg' := hg; simp at hg'))) | (refine IfG.g (fun hg => ?_) (fun hg => ?_) <;> (try (have hg' := hg; simp at hg'))) | (refine OutOK.gate (fun hg => ?_) (fun hg => ?_) <;> (try (have hg' := hg; simp at hg'))) | refine OutOK.run (by simp [*]; rfl) ?_ | refine AW.ret ?_ | refine AW.skip ?_ | refine AW.exit ?_ | refine fin_r ?_ | refine fin_n ?_ | refine AW.block ?_ | refine blockQ_n ?_ | refine blockQ_r ?_ | refine blockQ_e ?_ | refine blockQ_o rfl ?_)
    exact ⟨(), trivial, by simp [Try.f14]⟩
  have cz := x_laws_szEntryS l 1048576 h1 h2 (by decide) (by decide)
  have c1 := c_spec_SearchItems l word h1 h2 hi
  have c2' := c_impl_SearchItems l word h1 h2 hi
  clear h2
  refine ACallX.of (N := 104) tok Try.func14 rfl rfl rfl (by simp) ?_
  repeat' (first | with_reducible refine OutOK.done ?_ | refine thenQ_n ?_ | refine thenQ_r ?_ | refine thenQ_e ?_ | refine AW.seq ?_ | refine AW.reg tok (by simp [*]; rfl) ?_ | refine AW.ifB (by simp [*]; rfl) ?_ | refine IfG.t ?_ | refine IfG.f ?_ | (refine IfG.p (fun hg => ?_) (fun hg => ?_) <;> (try (have hg' := hg; simp at hg'))) | (refine IfG.n (fun hg => ?_) (fun hg => ?_) <;> (try (have hg' := hg; simp at hg'))) | (refine OutOK.gateP (fun hg => ?_) (fun hg => ?_) <;> (try (have hg' := hg; simp at hg'))) | (refine OutOK.gateN (fun hg => ?_) (fun hg => ?_) <;> (try (have hg' := hg; simp at hg'))) | (refine IfG.g (fun hg => ?_) (fun hg => ?_) <;> (try (have hg' := hg; simp at hg'))) | (refine OutOK.gate (fun hg => ?_) (fun hg => ?_) <;> (try (have hg' := hg; simp at hg'))) | refine OutOK.run (by simp [*]; rfl) ?_ | refine AW.ret ?_ | refine AW.skip ?_ | refine AW.exit ?_ | refine fin_r ?_ | refine fin_n ?_ | refine AW.block ?_ | refine blockQ_n ?_ | refine blockQ_r ?_ | refine blockQ_e ?_ | refine blockQ_o rfl ?_)
  refine OutOK.callX [] (by simp [*]; rfl) (by simp [*]; rfl) (by simp [*]; rfl) hb33 (by apply cz <;> first | assumption | exact Hd.out (by assumption) | ((try (clear e0)); (try (clear e1)); (try (clear e2)); (try (clear e3)); (try (clear e4)); (try (clear e5)); (try (clear e6)); (try (clear e7)); (try (clear e8)); (try (clear e9)); (try (clear e10)); (try (clear e11)); omega)) ⟨by simp [*], by simp [*], by simp [*]⟩ (by simp [*]) (fun x hx => ?_)
  obtain ⟨-, c2⟩ := hx
  clear cz
  rcases Int.lt_or_le x 0 with hz | hz
  · clear c2
    refine CallX.mk' ⟨by simp [*], by simp [*], by simp [*], by simp [*], by simp [*]⟩ (by simp [*]; rfl) ?_
    repeat' (first | with_reducible refine OutOK.done ?_ | refine thenQ_n ?_ | refine thenQ_r ?_ | refine thenQ_e ?_ | refine AW.seq ?_ | refine AW.reg tok (by simp [*]; rfl) ?_ | refine AW.ifB (by simp [*]; rfl) ?_ | refine IfG.t ?_ | refine IfG.f ?_ | (refine IfG.p (fun hg => ?_) (fun hg => ?_) <;> (try (have hg' := hg; simp at hg'))) | (refine IfG.n (fun hg => ?_) (fun hg => ?_) <;> (try (have hg' := hg; simp at hg'))) | (refine OutOK.gateP (fun hg => ?_) (fun hg => ?_) <;> (try (have hg' := hg; simp at hg'))) | (refine OutOK.gateN (fun hg => ?_) (fun hg => ?_) <;> (try (have hg' := hg; simp at hg'))) | (refine IfG.g (fun hg => ?_) (fun hg => ?_) <;> (try (have hg' := hg; simp at hg'))) | (refine OutOK.gate (fun hg => ?_) (fun hg => ?_) <;> (try (have hg' := hg; simp at hg'))) | refine OutOK.run (by simp [*]; rfl) ?_ | refine AW.ret ?_ | refine AW.skip ?_ | refine AW.exit ?_ | refine fin_r ?_ | refine fin_n ?_ | refine AW.block ?_ | refine blockQ_n ?_ | refine blockQ_r ?_ | refine blockQ_e ?_ | refine blockQ_o rfl ?_)
    exact ⟨(), trivial, by simp [Try.f14]⟩
  have l1 := c2 hz
  have hz' : ¬ x < 0 := by omega
  have ct := c_laws_toEntryS l l1
  have cq := c_laws_eqEntryS l (by omega)
  have hl := srL_len l word
  generalize srB l word = B at *
  generalize srL l word = cs at *
  have ci := c_laws_eqStringS cs (by omega)
  have km := c_laws_markStringS cs 1 (by omega) (by omega) (by omega)
  have kh := c_laws_heldStringS cs.length 1 (by omega) (by omega) (by omega)
  obtain ⟨n, hn⟩ : ∃ n, 1 + cs.length = n := ⟨_, rfl⟩
  rw [hn] at km kh
  have hk2 : ¬ (n : Int) < 0 := by omega
  have ke := c_laws_markEntryS l 1 l1 (by omega) (by omega)
  obtain ⟨m, hm⟩ : ∃ m : Nat, 1 + 3 * l.length = m := ⟨_, rfl⟩
  rw [hm] at ke
  have hm0' : ¬ (m : Int) < 0 := by omega
  have hul := upS_len 1 cs.length
  generalize upS 1 cs.length = U at *
  clear hm c2 hn hul
  refine CallX.mk' ⟨by simp [*], by simp [*], by simp [*], by simp [*], by simp [*]⟩ (by simp [*]; rfl) ?_
  repeat' (first | with_reducible refine OutOK.done ?_ | refine thenQ_n ?_ | refine thenQ_r ?_ | refine thenQ_e ?_ | refine AW.seq ?_ | refine AW.reg tok (by simp [*]; rfl) ?_ | refine AW.ifB (by simp [*]; rfl) ?_ | refine IfG.t ?_ | refine IfG.f ?_ | (refine IfG.p (fun hg => ?_) (fun hg => ?_) <;> (try (have hg' := hg; simp at hg'))) | (refine IfG.n (fun hg => ?_) (fun hg => ?_) <;> (try (have hg' := hg; simp at hg'))) | (refine OutOK.gateP (fun hg => ?_) (fun hg => ?_) <;> (try (have hg' := hg; simp at hg'))) | (refine OutOK.gateN (fun hg => ?_) (fun hg => ?_) <;> (try (have hg' := hg; simp at hg'))) | (refine IfG.g (fun hg => ?_) (fun hg => ?_) <;> (try (have hg' := hg; simp at hg'))) | (refine OutOK.gate (fun hg => ?_) (fun hg => ?_) <;> (try (have hg' := hg; simp at hg'))) | (refine OutOK.callF [] (by simp [*]; rfl) (by simp [*]; rfl) (by simp [*]; rfl) hb35 (by apply ct <;> first | assumption | exact Hd.out (by assumption) | ((try (clear e0)); (try (clear e1)); (try (clear e2)); (try (clear e3)); (try (clear e4)); (try (clear e5)); (try (clear e6)); (try (clear e7)); (try (clear e8)); (try (clear e9)); (try (clear e10)); (try (clear e11)); omega)) ⟨by simp [*], by simp [*], by simp [*], by simp [*], by simp [*]⟩ (by simp [*]) (by simp [*]; rfl) ?_) | (refine OutOK.callF [] (by simp [*]; rfl) (by simp [*]; rfl) (by simp [*]; rfl) hb64 (by apply c1 <;> first | assumption | exact Hd.out (by assumption) | ((try (clear e0)); (try (clear e1)); (try (clear e2)); (try (clear e3)); (try (clear e4)); (try (clear e5)); (try (clear e6)); (try (clear e7)); (try (clear e8)); (try (clear e9)); (try (clear e10)); (try (clear e11)); omega)) ⟨by simp [*], by simp [*], by simp [*], by simp [*], by simp [*]⟩ (by simp [*]) (by simp [*]; rfl) ?_) | (refine OutOK.callF [] (by simp [*]; rfl) (by simp [*]; rfl) (by simp [*]; rfl) hb65 (by apply c2' <;> first | assumption | exact Hd.out (by assumption) | ((try (clear e0)); (try (clear e1)); (try (clear e2)); (try (clear e3)); (try (clear e4)); (try (clear e5)); (try (clear e6)); (try (clear e7)); (try (clear e8)); (try (clear e9)); (try (clear e10)); (try (clear e11)); omega)) ⟨by simp [*], by simp [*], by simp [*], by simp [*], by simp [*]⟩ (by simp [*]) (by simp [*]; rfl) ?_) | (refine OutOK.callF [] (by simp [*]; rfl) (by simp [*]; rfl) (by simp [*]; rfl) hb37 (by apply cq <;> first | assumption | exact Hd.out (by assumption) | ((try (clear e0)); (try (clear e1)); (try (clear e2)); (try (clear e3)); (try (clear e4)); (try (clear e5)); (try (clear e6)); (try (clear e7)); (try (clear e8)); (try (clear e9)); (try (clear e10)); (try (clear e11)); omega)) ⟨by simp [*], by simp [*], by simp [*], by simp [*], by simp [*]⟩ (by simp [*]) (by simp [*]; rfl) ?_) | (refine OutOK.callF [] (by simp [*]; rfl) (by simp [*]; rfl) (by simp [*]; rfl) hb52 (by apply ci <;> first | assumption | exact Hd.out (by assumption) | ((try (clear e0)); (try (clear e1)); (try (clear e2)); (try (clear e3)); (try (clear e4)); (try (clear e5)); (try (clear e6)); (try (clear e7)); (try (clear e8)); (try (clear e9)); (try (clear e10)); (try (clear e11)); omega)) ⟨by simp [*], by simp [*], by simp [*], by simp [*], by simp [*]⟩ (by simp [*]) (by simp [*]; rfl) ?_) | (refine OutOK.callF [true, false] (by simp [*]; rfl) (by simp [*]; rfl) (by simp [*]; rfl) hb53 (by apply km <;> first | assumption | exact Hd.out (by assumption) | ((try (clear e0)); (try (clear e1)); (try (clear e2)); (try (clear e3)); (try (clear e4)); (try (clear e5)); (try (clear e6)); (try (clear e7)); (try (clear e8)); (try (clear e9)); (try (clear e10)); (try (clear e11)); omega)) ⟨by simp [*], by simp [*], by simp [*], by simp [*], by simp [*]⟩ (by simp [*]) (by simp [*]; rfl) ?_) | (refine OutOK.callF [] (by simp [*]; rfl) (by simp [*]; rfl) (by simp [*]; rfl) hb54 (by apply kh <;> first | assumption | exact Hd.out (by assumption) | ((try (clear e0)); (try (clear e1)); (try (clear e2)); (try (clear e3)); (try (clear e4)); (try (clear e5)); (try (clear e6)); (try (clear e7)); (try (clear e8)); (try (clear e9)); (try (clear e10)); (try (clear e11)); omega)) ⟨by simp [*], by simp [*], by simp [*], by simp [*], by simp [*]⟩ (by simp [*]) (by simp [*]; rfl) ?_) | (refine OutOK.callF [true, false] (by simp [*]; rfl) (by simp [*]; rfl) (by simp [*]; rfl) hb42 (by apply ke <;> first | assumption | exact Hd.out (by assumption) | ((try (clear e0)); (try (clear e1)); (try (clear e2)); (try (clear e3)); (try (clear e4)); (try (clear e5)); (try (clear e6)); (try (clear e7)); (try (clear e8)); (try (clear e9)); (try (clear e10)); (try (clear e11)); omega)) ⟨by simp [*], by simp [*], by simp [*], by simp [*], by simp [*]⟩ (by simp [*]) (by simp [*]; rfl) ?_) | refine OutOK.run (by simp [*]; rfl) ?_ | refine AW.ret ?_ | refine AW.skip ?_ | refine AW.exit ?_ | refine fin_r ?_ | refine fin_n ?_ | refine AW.block ?_ | refine blockQ_n ?_ | refine blockQ_r ?_ | refine blockQ_e ?_ | refine blockQ_o rfl ?_)
  exact ⟨(), trivial, by simp [Try.f14]⟩
end Go.Proofs.Ytodombkmnnggeaa.EngS

