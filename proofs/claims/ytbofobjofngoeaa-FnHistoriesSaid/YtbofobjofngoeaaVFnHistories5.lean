-- Written by this session's texts and program for this claim. Lean checks it.
import Derived.Shelf.Strings.Shaped
import Derived.Shelf.Sort.Plain
import Derived.Shelf.Slices.In.SortNone
import Derived.Shelf.SlSortCmp.WholeK
import Derived.Shelf.SlGeneric
import Derived.Ground.SlsfProg
import Derived.Ground.NamesProg
import Derived.Test.YtbofobjofngoeaaProg
import Derived.Shelf.SlSortCmp.NoneTotal
import Derived.Test.YtbofobjofngoeaaVFnHistories4
set_option autoImplicit true
set_option relaxedAutoImplicit true
set_option linter.unusedSimpArgs false
set_option linter.unusedVariables false
set_option maxHeartbeats 4000000
set_option maxRecDepth 100000
namespace Go.Proofs.Ytbofobjofngoeaa.EngS
open Go Go.Proofs Go.Eng Go.RowKit
theorem c_spec_l22Total (l : List Edt) (t : Int) (h : l.length ≤ 1048576) : ACall Try.prog 90 [.v (.sl true 5 (edts true l)), int t] [.x, .x] [int (cntE l t : Nat)] := by
  refine ACall.of (N := 23) tok Try.func90 rfl rfl rfl (by simp) ?_
  repeat' (first | with_reducible refine OutOK.done ?_ | refine thenQ_n ?_ | refine thenQ_r ?_ | refine thenQ_e ?_ | refine AW.seq ?_ | refine AW.reg tok (by simp [*]; rfl) ?_ | refine AW.ifB (by simp [*]; rfl) ?_ | refine IfG.t ?_ | refine IfG.f ?_ | ((first | refine IfG.p (fun hg => ?_) (fun hg => ?_) | refine IfG.n (fun hg => ?_) (fun hg => ?_) | refine OutOK.gateP (fun hg => ?_) (fun hg => ?_) | refine OutOK.gateN (fun hg => ?_) (fun hg => ?_) | refine IfG.g (fun hg => ?_) (fun hg => ?_) | refine OutOK.gate (fun hg => ?_) (fun hg => ?_)) <;> (try (have hg' := hg; simp at hg'))) | refine OutOK.run (by simp [*]; rfl) ?_ | refine AW.ret ?_ | refine AW.skip ?_ | refine AW.exit ?_ | refine fin_r ?_ | refine fin_n ?_ | refine AW.block ?_ | refine blockQ_n ?_ | refine blockQ_r ?_ | refine blockQ_e ?_ | refine blockQ_o rfl ?_)
  refine AW.loopL (α := Nat) (fun i => i ≤ l.length) (fun i => [(0, .c (.sl true 5 (edts true l))), (1, .c (.sc (.int .i64 t))), (5, .c (.sc (.int .i64 ((cntE (l.take i) t : Nat) : Int)))), (6, .c (.sc (.int .i64 (i : Int))))]) (fun _ => []) (fun i => l.length - i) 0 (Nat.zero_le _) ⟨by simp [cntE], by simp, by simp⟩ ?_
  intro i hi
  rcases Nat.lt_or_ge i l.length with hl | hl
  · have e1 : wrap64 ((i : Int) + 1) = ((i + 1 : Nat) : Int) := by rw [w64 (by omega) (by omega)]; omega
    have hst := cntE_take l i hl t
    have hc : cntE (l.take i) t ≤ 1048576 := by have := cntE_le (l.take i) t; have := List.length_take_le i l; omega
    generalize hc1 : cntE (l.take (i + 1)) t = c1 at *
    generalize cntE (l.take i) t = c at *
    have hc1' : Hd _ := hc1
    clear hc1
    have e2 : wrap64 ((c : Int) + 1) = ((c + 1 : Nat) : Int) := by rw [w64 (by ((try clear e1); (try clear e2); omega)) (by ((try clear e1); (try clear e2); omega))]; ((try clear e1); (try clear e2); omega)
    by_cases ht : l[i].tm = t
    · rw [if_pos ht] at hst
      have hst' : Hd _ := hst
      clear hst
      repeat' (first | with_reducible refine OutOK.done ?_ | refine thenQ_n ?_ | refine thenQ_r ?_ | refine thenQ_e ?_ | refine AW.seq ?_ | refine AW.reg tok (by simp [*]; rfl) ?_ | refine AW.ifB (by simp [*]; rfl) ?_ | refine IfG.t ?_ | refine IfG.f ?_ | ((first | refine IfG.p (fun hg => ?_) (fun hg => ?_) | refine IfG.n (fun hg => ?_) (fun hg => ?_) | refine OutOK.gateP (fun hg => ?_) (fun hg => ?_) | refine OutOK.gateN (fun hg => ?_) (fun hg => ?_) | refine IfG.g (fun hg => ?_) (fun hg => ?_) | refine OutOK.gate (fun hg => ?_) (fun hg => ?_)) <;> (try (have hg' := hg; simp at hg'))) | refine OutOK.run (by simp [*]; rfl) ?_ | refine AW.ret ?_ | refine AW.skip ?_ | refine AW.exit ?_ | refine fin_r ?_ | refine fin_n ?_ | refine AW.block ?_ | refine blockQ_n ?_ | refine blockQ_r ?_ | refine blockQ_e ?_ | refine blockQ_o rfl ?_)
      exact ⟨i + 1, hl, ⟨by simp [hc1'.out, hst'.out], by simp, by simp⟩, by ((try clear e1); (try clear e2); omega)⟩
    · rw [if_neg ht] at hst
      have hst' : Hd _ := hst
      clear hst
      repeat' (first | with_reducible refine OutOK.done ?_ | refine thenQ_n ?_ | refine thenQ_r ?_ | refine thenQ_e ?_ | refine AW.seq ?_ | refine AW.reg tok (by simp [*]; rfl) ?_ | refine AW.ifB (by simp [*]; rfl) ?_ | refine IfG.t ?_ | refine IfG.f ?_ | ((first | refine IfG.p (fun hg => ?_) (fun hg => ?_) | refine IfG.n (fun hg => ?_) (fun hg => ?_) | refine OutOK.gateP (fun hg => ?_) (fun hg => ?_) | refine OutOK.gateN (fun hg => ?_) (fun hg => ?_) | refine IfG.g (fun hg => ?_) (fun hg => ?_) | refine OutOK.gate (fun hg => ?_) (fun hg => ?_)) <;> (try (have hg' := hg; simp at hg'))) | refine OutOK.run (by simp [*]; rfl) ?_ | refine AW.ret ?_ | refine AW.skip ?_ | refine AW.exit ?_ | refine fin_r ?_ | refine fin_n ?_ | refine AW.block ?_ | refine blockQ_n ?_ | refine blockQ_r ?_ | refine blockQ_e ?_ | refine blockQ_o rfl ?_)
      exact ⟨i + 1, hl, ⟨by simp [hc1'.out, hst'.out], by simp, by simp⟩, by ((try clear e1); (try clear e2); omega)⟩
  · have hii : i = l.length := by omega
    subst hii
    rw [List.take_length]
    have hn : ¬ l.length < l.length := by omega
    repeat' (first | with_reducible refine OutOK.done ?_ | refine thenQ_n ?_ | refine thenQ_r ?_ | refine thenQ_e ?_ | refine AW.seq ?_ | refine AW.reg tok (by simp [*]; rfl) ?_ | refine AW.ifB (by simp [*]; rfl) ?_ | refine IfG.t ?_ | refine IfG.f ?_ | ((first | refine IfG.p (fun hg => ?_) (fun hg => ?_) | refine IfG.n (fun hg => ?_) (fun hg => ?_) | refine OutOK.gateP (fun hg => ?_) (fun hg => ?_) | refine OutOK.gateN (fun hg => ?_) (fun hg => ?_) | refine IfG.g (fun hg => ?_) (fun hg => ?_) | refine OutOK.gate (fun hg => ?_) (fun hg => ?_)) <;> (try (have hg' := hg; simp at hg'))) | refine OutOK.run (by simp [*]; rfl) ?_ | refine AW.ret ?_ | refine AW.skip ?_ | refine AW.exit ?_ | refine fin_r ?_ | refine fin_n ?_ | refine AW.block ?_ | refine blockQ_n ?_ | refine blockQ_r ?_ | refine blockQ_e ?_ | refine blockQ_o rfl ?_)
    simp [Try.f90]
theorem c_spec_l1Own (xs : List Int) (h : xs.length ≤ 1048576) : ACall Try.prog 123 [.v (.sl true 1 (ints xs))] [.x] [.v (.sl false 1 (ints xs))] := by
  have h3 : xs.length * 8 ≤ 140737488355328 := by omega
  have h4 : xs.length ≤ 4611686018427387904 := by omega
  refine ACall.of (N := 6) tok Try.func123 rfl rfl rfl (by simp) ?_
  repeat' (first | with_reducible refine OutOK.done ?_ | refine thenQ_n ?_ | refine thenQ_r ?_ | refine thenQ_e ?_ | refine AW.seq ?_ | refine AW.reg tok (by simp [*]; rfl) ?_ | refine AW.ifB (by simp [*]; rfl) ?_ | refine IfG.t ?_ | refine IfG.f ?_ | ((first | refine IfG.p (fun hg => ?_) (fun hg => ?_) | refine IfG.n (fun hg => ?_) (fun hg => ?_) | refine OutOK.gateP (fun hg => ?_) (fun hg => ?_) | refine OutOK.gateN (fun hg => ?_) (fun hg => ?_) | refine IfG.g (fun hg => ?_) (fun hg => ?_) | refine OutOK.gate (fun hg => ?_) (fun hg => ?_)) <;> (try (have hg' := hg; simp at hg'))) | refine OutOK.run (by simp [*]; rfl) ?_ | refine AW.ret ?_ | refine AW.skip ?_ | refine AW.exit ?_ | refine fin_r ?_ | refine fin_n ?_ | refine AW.block ?_ | refine blockQ_n ?_ | refine blockQ_r ?_ | refine blockQ_e ?_ | refine blockQ_o rfl ?_)
  all_goals (try simp [*, Try.f123])
theorem c_spec_l22Copy (e : Edt) (h : e.ck.length ≤ 1048576) : ACall Try.prog 91 [edtD e] [.x] [edtO e] := by
  have co := c_spec_l1Own e.ck h
  refine ACall.of (N := 8) tok Try.func91 rfl rfl rfl (by simp) ?_
  repeat' (first | with_reducible refine OutOK.done ?_ | refine thenQ_n ?_ | refine thenQ_r ?_ | refine thenQ_e ?_ | refine AW.seq ?_ | refine AW.reg tok (by simp [*]; rfl) ?_ | refine AW.ifB (by simp [*]; rfl) ?_ | refine IfG.t ?_ | refine IfG.f ?_ | ((first | refine IfG.p (fun hg => ?_) (fun hg => ?_) | refine IfG.n (fun hg => ?_) (fun hg => ?_) | refine OutOK.gateP (fun hg => ?_) (fun hg => ?_) | refine OutOK.gateN (fun hg => ?_) (fun hg => ?_) | refine IfG.g (fun hg => ?_) (fun hg => ?_) | refine OutOK.gate (fun hg => ?_) (fun hg => ?_)) <;> (try (have hg' := hg; simp at hg'))) | (refine OutOK.callF [] (by simp [*]; rfl) (by simp [*]; rfl) (by simp [*]; rfl) hb123 (by apply co <;> first | assumption | exact Hd.out (by assumption) | omega) ⟨by simp [*], by simp [*], by simp [*], by simp [*], by simp [*]⟩ (by simp [*]) (by simp [*]; rfl) ?_) | refine OutOK.run (by simp [*]; rfl) ?_ | refine AW.ret ?_ | refine AW.skip ?_ | refine AW.exit ?_ | refine fin_r ?_ | refine fin_n ?_ | refine AW.block ?_ | refine blockQ_n ?_ | refine blockQ_r ?_ | refine blockQ_e ?_ | refine blockQ_o rfl ?_)
  all_goals (try simp [*, Try.f91])
noncomputable def knwB (l : List Edt) (n t : Int) : Bool := hist l n && inR 0 (n - 1) t
def knwL (l : List Edt) (t : Int) : List Edt := if fndE l t (cntE l t : Nat) < 0 then [] else l.filter fun x => !knP (l[(fndE l t (cntE l t : Nat)).toNat]?.getD default) x
noncomputable def knwR (l : List Edt) (n t : Int) : List Edt := if knwB l n t = true then knwL l t else []
theorem hist_tm {l : List Edt} {n : Int} (h : hist l n = true) : ∀ e ∈ l, inR 0 (n - 1) e.tm = true := by
  have hh := hist_iff'.1 h
  intro e he
  obtain ⟨i, hi, rfl⟩ := List.getElem_of_mem he
  exact (hh.st i hi).1
theorem knP_iff {l : List Edt} {n : Int} (hh : Hist l n) {i k : Nat} (hi : i < l.length) (hk : k < l.length) : (!knP l[k] l[i]) = decide (l[i].ct ≤ ckAt l[k].ck l[i].tm) := by
  have hR := inR_iff.1 (hh.st i hi).1
  have hL := (hh.fl k hk).1
  by_cases hz : l[i].tm = l[k].tm ∧ l[i].ct = l[k].ct
  · have h1 : cmpE l[i] l[k] = 0 := cmpE_zero.2 hz
    have h2 := (hh.fl k hk).2.1
    have h3 : l[i].ct ≤ ckAt l[k].ck l[i].tm := by rw [hz.1, h2, hz.2]; omega
    simp [knP, h1, h3]
  · have h1 : ¬ cmpE l[i] l[k] = 0 := fun e => hz (cmpE_zero.1 e)
    have h2 : inR 0 ((l[k].ck.length : Int) - 1) l[i].tm = true := inR_iff.2 ⟨by omega, by omega⟩
    have h3 : (decide (l[i].tm = l[k].tm) && decide (l[i].ct = l[k].ct)) = false := by simpa using hz
    rw [knP, precE, h2, h3]
    simp [h1]
theorem c_impl_KnownBy (l : List Edt) (n t : Int) (h : l.length ≤ 1048576) (hb : ∀ e ∈ l, EdtB e) : ACall Try.prog 42 [.v (.sl true 5 (edts true l)), int n, int t] [.x, .x, .x] [.v (.sl false 5 (edts false (knwR l n t))), boo (knwB l n t)] := by
  have cg := c_impl_IsValidHistory l n (by omega) (fun e he => (hb e he).w)
  cases hh : hist l n with
  | false =>
    rw [hh] at cg
    have h1 : knwB l n t = false := by simp [knwB, hh]
    have h2 : knwR l n t = [] := by simp [knwR, h1]
    rw [h1, h2]
    clear h1 h2 hb hh
    refine ACall.of (N := 35) tok Try.func42 rfl rfl rfl (by simp) ?_
    repeat' (first | with_reducible refine OutOK.done ?_ | refine thenQ_n ?_ | refine thenQ_r ?_ | refine thenQ_e ?_ | refine AW.seq ?_ | refine AW.dtreeJ tok mixed [2, 4, 6, 7, 9] [] (.fork [(1, false), (3, false), (5, false), (0, false), (2, true)] (.fork [(4, true), (6, true), (7, true)] (.leaf [(8, false), (9, true), (10, false)]) (.leaf [(9, true), (8, false), (10, false)])) (.leaf [(9, true), (4, true), (6, true), (7, true), (8, false), (10, false)])) (by decide +kernel) rfl (st2 := ?_) ?_ ?_ | with_reducible exact eqSt _ | with_reducible refine ForkQ.mk ?_ ?_ | with_reducible refine ChkQ.mk (by simp [*, watchB, WatchAll]) ?_ | refine OutT.chk (by simp [*]; rfl) ?_ | refine OutT.leaf (by simp [*]; rfl) ?_ | refine OutT.fork (by simp [*]; rfl) ?_ | refine AW.reg tok (by simp [*]; rfl) ?_ | refine AW.ifB (by simp [*]; rfl) ?_ | refine IfG.t ?_ | refine IfG.f ?_ | ((first | refine IfG.p (fun hg => ?_) (fun hg => ?_) | refine IfG.n (fun hg => ?_) (fun hg => ?_) | refine OutOK.gateP (fun hg => ?_) (fun hg => ?_) | refine OutOK.gateN (fun hg => ?_) (fun hg => ?_) | refine IfG.g (fun hg => ?_) (fun hg => ?_) | refine OutOK.gate (fun hg => ?_) (fun hg => ?_)) <;> (try (have hg' := hg; simp at hg'))) | (refine OutOK.callF [] (by simp [*]; rfl) (by simp [*]; rfl) (by simp [*]; rfl) hb26 (by apply cg <;> first | assumption | exact Hd.out (by assumption) | ((try clear e1); omega)) ⟨by simp [*], by simp [*], by simp [*], by simp [*], by simp [*]⟩ (by simp [*]) (by simp [*]; rfl) ?_) | (refine OutOK.callF [] (by simp [*]; rfl) (by simp [*]; rfl) (by simp [*]; rfl) hb59 (by apply c_impl_within <;> first | assumption | exact Hd.out (by assumption) | ((try clear e1); omega)) ⟨by simp [*], by simp [*], by simp [*], by simp [*], by simp [*]⟩ (by simp [*]) (by simp [*]; rfl) ?_) | refine OutOK.run (by simp [*]; rfl) ?_ | refine AW.ret ?_ | refine AW.skip ?_ | refine AW.exit ?_ | refine fin_r ?_ | refine fin_n ?_ | refine AW.block ?_ | refine blockQ_n ?_ | refine blockQ_r ?_ | refine blockQ_e ?_ | refine blockQ_o rfl ?_)
    simp [Try.f42]
  | true =>
    rw [hh] at cg
    have hH := hist_iff'.1 hh
    have hR3 := inR_iff.1 hH.nn
    have e1 : wrap64 (n - 1) = n - 1 := w64 (by omega) (by omega)
    cases hR : inR 0 (n - 1) t with
    | false =>
      have h1 : knwB l n t = false := by simp [knwB, hR]
      have h2 : knwR l n t = [] := by simp [knwR, h1]
      rw [h1, h2]
      clear h1 h2 hb hh hH hR3
      refine ACall.of (N := 35) tok Try.func42 rfl rfl rfl (by simp) ?_
      repeat' (first | with_reducible refine OutOK.done ?_ | refine thenQ_n ?_ | refine thenQ_r ?_ | refine thenQ_e ?_ | refine AW.seq ?_ | refine AW.dtreeJ tok mixed [2, 4, 6, 7, 9] [] (.fork [(1, false), (3, false), (5, false), (0, false), (2, true)] (.fork [(4, true), (6, true), (7, true)] (.leaf [(8, false), (9, true), (10, false)]) (.leaf [(9, true), (8, false), (10, false)])) (.leaf [(9, true), (4, true), (6, true), (7, true), (8, false), (10, false)])) (by decide +kernel) rfl (st2 := ?_) ?_ ?_ | with_reducible exact eqSt _ | with_reducible refine ForkQ.mk ?_ ?_ | with_reducible refine ChkQ.mk (by simp [*, watchB, WatchAll]) ?_ | refine OutT.chk (by simp [*]; rfl) ?_ | refine OutT.leaf (by simp [*]; rfl) ?_ | refine OutT.fork (by simp [*]; rfl) ?_ | refine AW.reg tok (by simp [*]; rfl) ?_ | refine AW.ifB (by simp [*]; rfl) ?_ | refine IfG.t ?_ | refine IfG.f ?_ | ((first | refine IfG.p (fun hg => ?_) (fun hg => ?_) | refine IfG.n (fun hg => ?_) (fun hg => ?_) | refine OutOK.gateP (fun hg => ?_) (fun hg => ?_) | refine OutOK.gateN (fun hg => ?_) (fun hg => ?_) | refine IfG.g (fun hg => ?_) (fun hg => ?_) | refine OutOK.gate (fun hg => ?_) (fun hg => ?_)) <;> (try (have hg' := hg; simp at hg'))) | (refine OutOK.callF [] (by simp [*]; rfl) (by simp [*]; rfl) (by simp [*]; rfl) hb26 (by apply cg <;> first | assumption | exact Hd.out (by assumption) | ((try clear e1); omega)) ⟨by simp [*], by simp [*], by simp [*], by simp [*], by simp [*]⟩ (by simp [*]) (by simp [*]; rfl) ?_) | (refine OutOK.callF [] (by simp [*]; rfl) (by simp [*]; rfl) (by simp [*]; rfl) hb59 (by apply c_impl_within <;> first | assumption | exact Hd.out (by assumption) | ((try clear e1); omega)) ⟨by simp [*], by simp [*], by simp [*], by simp [*], by simp [*]⟩ (by simp [*]) (by simp [*]; rfl) ?_) | refine OutOK.run (by simp [*]; rfl) ?_ | refine AW.ret ?_ | refine AW.skip ?_ | refine AW.exit ?_ | refine fin_r ?_ | refine fin_n ?_ | refine AW.block ?_ | refine blockQ_n ?_ | refine blockQ_r ?_ | refine blockQ_e ?_ | refine blockQ_o rfl ?_)
      simp [Try.f42]
    | true =>
      have h1 : knwB l n t = true := by simp [knwB, hR, hh]
      have h2 : knwR l n t = knwL l t := by simp [knwR, h1]
      rw [h1, h2]
      have hr := inR_iff.1 hR
      obtain ⟨T, hT⟩ : ∃ T : Nat, t = (T : Int) := ⟨t.toNat, by omega⟩
      subst hT
      have hl24 := hist_len hh
      have cc := c_impl_editCounts l n hl24 hR3.1 hR3.2 (hist_tm hh)
      have ce := c_impl_editOf l (T : Int) (cntE l (T : Int) : Nat) (by omega)
      have hTl : T < (cts l n l.length).length := by simp; omega
      have hat : (cts l n l.length)[T] = ((cntE l (T : Int) : Nat) : Int) := by rw [cts_at, List.take_length]
      have hkn : Hd (knwL l (T : Int) = if fndE l (T : Int) (cntE l (T : Int) : Nat) < 0 then [] else l.filter fun x => !knP (l[(fndE l (T : Int) (cntE l (T : Int) : Nat)).toNat]?.getD default) x) := rfl
      have hfc := idx_cases (keyE (T : Int) (cntE l (T : Int) : Nat)) l
      rw [show idx (keyE (T : Int) (cntE l (T : Int) : Nat)) l = fndE l (T : Int) (cntE l (T : Int) : Nat) from rfl] at hfc
      have hck := hist_ck hh
      generalize fndE l (T : Int) (cntE l (T : Int) : Nat) = F at *
      generalize knwL l (T : Int) = K at *
      generalize cts l n l.length = cl at *
      generalize cntE l (T : Int) = c at *
      have hck' : Hd _ := hck
      clear h1 h2 hb hh hH hR3 hr hck
      rcases hfc with hf | ⟨L, rfl, hLl⟩
      · have hk := hkn.out
        rw [if_pos hf] at hk
        subst hk
        clear hkn
        refine ACall.of (N := 35) tok Try.func42 rfl rfl rfl (by simp) ?_
        repeat' (first | with_reducible refine OutOK.done ?_ | refine thenQ_n ?_ | refine thenQ_r ?_ | refine thenQ_e ?_ | refine AW.seq ?_ | refine AW.dtreeJ tok mixed [2, 4, 6, 7, 9] [] (.fork [(1, false), (3, false), (5, false), (0, false), (2, true)] (.fork [(4, true), (6, true), (7, true)] (.leaf [(8, false), (9, true), (10, false)]) (.leaf [(9, true), (8, false), (10, false)])) (.leaf [(9, true), (4, true), (6, true), (7, true), (8, false), (10, false)])) (by decide +kernel) rfl (st2 := ?_) ?_ ?_ | with_reducible exact eqSt _ | with_reducible refine ForkQ.mk ?_ ?_ | with_reducible refine ChkQ.mk (by simp [*, watchB, WatchAll]) ?_ | refine OutT.chk (by simp [*]; rfl) ?_ | refine OutT.leaf (by simp [*]; rfl) ?_ | refine OutT.fork (by simp [*]; rfl) ?_ | refine AW.reg tok (by simp [*]; rfl) ?_ | refine AW.ifB (by simp [*]; rfl) ?_ | refine IfG.t ?_ | refine IfG.f ?_ | ((first | refine IfG.p (fun hg => ?_) (fun hg => ?_) | refine IfG.n (fun hg => ?_) (fun hg => ?_) | refine OutOK.gateP (fun hg => ?_) (fun hg => ?_) | refine OutOK.gateN (fun hg => ?_) (fun hg => ?_) | refine IfG.g (fun hg => ?_) (fun hg => ?_) | refine OutOK.gate (fun hg => ?_) (fun hg => ?_)) <;> (try (have hg' := hg; simp at hg'))) | (refine OutOK.callF [] (by simp [*]; rfl) (by simp [*]; rfl) (by simp [*]; rfl) hb26 (by apply cg <;> first | assumption | exact Hd.out (by assumption) | ((try clear e1); omega)) ⟨by simp [*], by simp [*], by simp [*], by simp [*], by simp [*]⟩ (by simp [*]) (by simp [*]; rfl) ?_) | (refine OutOK.callF [] (by simp [*]; rfl) (by simp [*]; rfl) (by simp [*]; rfl) hb59 (by apply c_impl_within <;> first | assumption | exact Hd.out (by assumption) | ((try clear e1); omega)) ⟨by simp [*], by simp [*], by simp [*], by simp [*], by simp [*]⟩ (by simp [*]) (by simp [*]; rfl) ?_) | (refine OutOK.callF [] (by simp [*]; rfl) (by simp [*]; rfl) (by simp [*]; rfl) hb93 (by apply cc <;> first | assumption | exact Hd.out (by assumption) | ((try clear e1); omega)) ⟨by simp [*], by simp [*], by simp [*], by simp [*], by simp [*]⟩ (by simp [*]) (by simp [*]; rfl) ?_) | (refine OutOK.callF [] (by simp [*]; rfl) (by simp [*]; rfl) (by simp [*]; rfl) hb92 (by apply ce <;> first | assumption | exact Hd.out (by assumption) | ((try clear e1); omega)) ⟨by simp [*], by simp [*], by simp [*], by simp [*], by simp [*]⟩ (by simp [*]) (by simp [*]; rfl) ?_) | refine OutOK.run (by simp [*]; rfl) ?_ | refine AW.ret ?_ | refine AW.skip ?_ | refine AW.exit ?_ | refine fin_r ?_ | refine fin_n ?_ | refine AW.block ?_ | refine blockQ_n ?_ | refine blockQ_r ?_ | refine blockQ_e ?_ | refine blockQ_o rfl ?_)
        simp [Try.f42]
      · have hk := hkn.out
        have hLn : ¬ (L : Int) < 0 := by omega
        rw [if_neg hLn] at hk
        simp only [Int.toNat_natCast, List.getElem?_eq_getElem hLl, Option.getD_some] at hk
        subst hk
        clear hkn
        have cp := c_impl_copyEdits l (by omega) (fun e he => by have := hck'.out e he; omega)
        have cd := c_DeleteFunc_edt l 96 [.sl true 5 (edts true l)] [.sc (.int .i64 (L : Int))] (knP l[L]) (by omega) (by simp) (fun x _ => c_impl_KnownBy_1 l L hLl x (hck'.out _ (List.getElem_mem hLl)))
        generalize (l.filter fun x => !knP l[L] x) = R at *
        refine ACall.of (N := 35) tok Try.func42 rfl rfl rfl (by simp) ?_
        repeat' (first | with_reducible refine OutOK.done ?_ | refine thenQ_n ?_ | refine thenQ_r ?_ | refine thenQ_e ?_ | refine AW.seq ?_ | refine AW.dtreeJ tok mixed [2, 4, 6, 7, 9] [] (.fork [(1, false), (3, false), (5, false), (0, false), (2, true)] (.fork [(4, true), (6, true), (7, true)] (.leaf [(8, false), (9, true), (10, false)]) (.leaf [(9, true), (8, false), (10, false)])) (.leaf [(9, true), (4, true), (6, true), (7, true), (8, false), (10, false)])) (by decide +kernel) rfl (st2 := ?_) ?_ ?_ | with_reducible exact eqSt _ | with_reducible refine ForkQ.mk ?_ ?_ | with_reducible refine ChkQ.mk (by simp [*, watchB, WatchAll]) ?_ | refine OutT.chk (by simp [*]; rfl) ?_ | refine OutT.leaf (by simp [*]; rfl) ?_ | refine OutT.fork (by simp [*]; rfl) ?_ | refine AW.reg tok (by simp [*]; rfl) ?_ | refine AW.ifB (by simp [*]; rfl) ?_ | refine IfG.t ?_ | refine IfG.f ?_ | ((first | refine IfG.p (fun hg => ?_) (fun hg => ?_) | refine IfG.n (fun hg => ?_) (fun hg => ?_) | refine OutOK.gateP (fun hg => ?_) (fun hg => ?_) | refine OutOK.gateN (fun hg => ?_) (fun hg => ?_) | refine IfG.g (fun hg => ?_) (fun hg => ?_) | refine OutOK.gate (fun hg => ?_) (fun hg => ?_)) <;> (try (have hg' := hg; simp at hg'))) | (refine OutOK.callF [] (by simp [*]; rfl) (by simp [*]; rfl) (by simp [*]; rfl) hb26 (by apply cg <;> first | assumption | exact Hd.out (by assumption) | ((try clear e1); omega)) ⟨by simp [*], by simp [*], by simp [*], by simp [*], by simp [*]⟩ (by simp [*]) (by simp [*]; rfl) ?_) | (refine OutOK.callF [] (by simp [*]; rfl) (by simp [*]; rfl) (by simp [*]; rfl) hb59 (by apply c_impl_within <;> first | assumption | exact Hd.out (by assumption) | ((try clear e1); omega)) ⟨by simp [*], by simp [*], by simp [*], by simp [*], by simp [*]⟩ (by simp [*]) (by simp [*]; rfl) ?_) | (refine OutOK.callF [] (by simp [*]; rfl) (by simp [*]; rfl) (by simp [*]; rfl) hb93 (by apply cc <;> first | assumption | exact Hd.out (by assumption) | ((try clear e1); omega)) ⟨by simp [*], by simp [*], by simp [*], by simp [*], by simp [*]⟩ (by simp [*]) (by simp [*]; rfl) ?_) | (refine OutOK.callF [] (by simp [*]; rfl) (by simp [*]; rfl) (by simp [*]; rfl) hb92 (by apply ce <;> first | assumption | exact Hd.out (by assumption) | ((try clear e1); omega)) ⟨by simp [*], by simp [*], by simp [*], by simp [*], by simp [*]⟩ (by simp [*]) (by simp [*]; rfl) ?_) | (refine OutOK.callF [] (by simp [*]; rfl) (by simp [*]; rfl) (by simp [*]; rfl) hb95 (by apply cp <;> first | assumption | exact Hd.out (by assumption) | ((try clear e1); omega)) ⟨by simp [*], by simp [*], by simp [*], by simp [*], by simp [*]⟩ (by simp [*]) (by simp [*]; rfl) ?_) | (refine OutOK.callF [true, false] (by simp [*]; rfl) (by simp [*]; rfl) (by simp [*]; rfl) hb94 (by apply cd <;> first | assumption | exact Hd.out (by assumption) | ((try clear e1); omega)) ⟨by simp [*], by simp [*], by simp [*], by simp [*], by simp [*]⟩ (by simp [*]) (by simp [*]; rfl) ?_) | refine OutOK.run (by simp [*]; rfl) ?_ | refine AW.ret ?_ | refine AW.skip ?_ | refine AW.exit ?_ | refine fin_r ?_ | refine fin_n ?_ | refine AW.block ?_ | refine blockQ_n ?_ | refine blockQ_r ?_ | refine blockQ_e ?_ | refine blockQ_o rfl ?_)
        simp [Try.f42]
theorem c_spec_KnownBy (l : List Edt) (n t : Int) (h : l.length ≤ 1048576) (hb : ∀ e ∈ l, EdtB e) : ACall Try.prog 41 [.v (.sl true 5 (edts true l)), int n, int t] [.x, .x, .x] [.v (.sl false 5 (edts false (knwR l n t))), boo (knwB l n t)] := by
  have cg := c_spec_l22Good l n (by omega) (fun e he => (hb e he).w)
  cases hh : hist l n with
  | false =>
    rw [hh] at cg
    have h1 : knwB l n t = false := by simp [knwB, hh]
    have h2 : knwR l n t = [] := by simp [knwR, h1]
    rw [h1, h2]
    clear h1 h2 hb hh
    refine ACall.of (N := 67) tok Try.func41 rfl rfl rfl (by simp) ?_
    repeat' (first | with_reducible refine OutOK.done ?_ | refine thenQ_n ?_ | refine thenQ_r ?_ | refine thenQ_e ?_ | refine AW.seq ?_ | refine AW.dreg tok mixed [9, 16]  [(0, false), (1, false), (2, false), (3, false), (5, false), (6, false), (7, false), (8, false), (12, false), (13, false), (14, false), (15, false), (4, false), (9, true), (10, false), (11, false), (16, true), (17, false)] (by decide +kernel) rfl (by simp [*]; rfl) ?_ | refine AW.reg tok (by simp [*]; rfl) ?_ | refine AW.ifB (by simp [*]; rfl) ?_ | refine IfG.t ?_ | refine IfG.f ?_ | ((first | refine IfG.p (fun hg => ?_) (fun hg => ?_) | refine IfG.n (fun hg => ?_) (fun hg => ?_) | refine OutOK.gateP (fun hg => ?_) (fun hg => ?_) | refine OutOK.gateN (fun hg => ?_) (fun hg => ?_) | refine IfG.g (fun hg => ?_) (fun hg => ?_) | refine OutOK.gate (fun hg => ?_) (fun hg => ?_)) <;> (try (have hg' := hg; simp at hg'))) | (refine OutOK.callF [] (by simp [*]; rfl) (by simp [*]; rfl) (by simp [*]; rfl) hb74 (by apply cg <;> first | assumption | exact Hd.out (by assumption) | ((try clear e1); (try clear e2); omega)) ⟨by simp [*], by simp [*], by simp [*], by simp [*], by simp [*]⟩ (by simp [*]) (by simp [*]; rfl) ?_) | (refine OutOK.callF [] (by simp [*]; rfl) (by simp [*]; rfl) (by simp [*]; rfl) hb64 (by apply c_spec_l1In <;> first | assumption | exact Hd.out (by assumption) | ((try clear e1); (try clear e2); omega)) ⟨by simp [*], by simp [*], by simp [*], by simp [*], by simp [*]⟩ (by simp [*]) (by simp [*]; rfl) ?_) | refine OutOK.run (by simp [*]; rfl) ?_ | refine AW.ret ?_ | refine AW.skip ?_ | refine AW.exit ?_ | refine fin_r ?_ | refine fin_n ?_ | refine AW.block ?_ | refine blockQ_n ?_ | refine blockQ_r ?_ | refine blockQ_e ?_ | refine blockQ_o rfl ?_)
    simp [Try.f41]
  | true =>
    rw [hh] at cg
    have hH := hist_iff'.1 hh
    have hR3 := inR_iff.1 hH.nn
    have e1 : wrap64 (n - 1) = n - 1 := w64 (by omega) (by omega)
    cases hR : inR 0 (n - 1) t with
    | false =>
      have h1 : knwB l n t = false := by simp [knwB, hR]
      have h2 : knwR l n t = [] := by simp [knwR, h1]
      rw [h1, h2]
      clear h1 h2 hb hh hH hR3
      refine ACall.of (N := 67) tok Try.func41 rfl rfl rfl (by simp) ?_
      repeat' (first | with_reducible refine OutOK.done ?_ | refine thenQ_n ?_ | refine thenQ_r ?_ | refine thenQ_e ?_ | refine AW.seq ?_ | refine AW.dreg tok mixed [9, 16]  [(0, false), (1, false), (2, false), (3, false), (5, false), (6, false), (7, false), (8, false), (12, false), (13, false), (14, false), (15, false), (4, false), (9, true), (10, false), (11, false), (16, true), (17, false)] (by decide +kernel) rfl (by simp [*]; rfl) ?_ | refine AW.reg tok (by simp [*]; rfl) ?_ | refine AW.ifB (by simp [*]; rfl) ?_ | refine IfG.t ?_ | refine IfG.f ?_ | ((first | refine IfG.p (fun hg => ?_) (fun hg => ?_) | refine IfG.n (fun hg => ?_) (fun hg => ?_) | refine OutOK.gateP (fun hg => ?_) (fun hg => ?_) | refine OutOK.gateN (fun hg => ?_) (fun hg => ?_) | refine IfG.g (fun hg => ?_) (fun hg => ?_) | refine OutOK.gate (fun hg => ?_) (fun hg => ?_)) <;> (try (have hg' := hg; simp at hg'))) | (refine OutOK.callF [] (by simp [*]; rfl) (by simp [*]; rfl) (by simp [*]; rfl) hb74 (by apply cg <;> first | assumption | exact Hd.out (by assumption) | ((try clear e1); (try clear e2); omega)) ⟨by simp [*], by simp [*], by simp [*], by simp [*], by simp [*]⟩ (by simp [*]) (by simp [*]; rfl) ?_) | (refine OutOK.callF [] (by simp [*]; rfl) (by simp [*]; rfl) (by simp [*]; rfl) hb64 (by apply c_spec_l1In <;> first | assumption | exact Hd.out (by assumption) | ((try clear e1); (try clear e2); omega)) ⟨by simp [*], by simp [*], by simp [*], by simp [*], by simp [*]⟩ (by simp [*]) (by simp [*]; rfl) ?_) | refine OutOK.run (by simp [*]; rfl) ?_ | refine AW.ret ?_ | refine AW.skip ?_ | refine AW.exit ?_ | refine fin_r ?_ | refine fin_n ?_ | refine AW.block ?_ | refine blockQ_n ?_ | refine blockQ_r ?_ | refine blockQ_e ?_ | refine blockQ_o rfl ?_)
      simp [Try.f41]
    | true =>
      have h1 : knwB l n t = true := by simp [knwB, hR, hh]
      have h2 : knwR l n t = knwL l t := by simp [knwR, h1]
      rw [h1, h2]
      have hl24 := hist_len hh
      have ct := c_spec_l22Total l t h
      have cf := c_spec_l22Find l t (cntE l t : Nat) (by omega)
      have hkn : Hd (knwL l t = if fndE l t (cntE l t : Nat) < 0 then [] else l.filter fun x => !knP (l[(fndE l t (cntE l t : Nat)).toNat]?.getD default) x) := rfl
      have hfc := idx_cases (keyE t (cntE l t : Nat)) l
      rw [show idx (keyE t (cntE l t : Nat)) l = fndE l t (cntE l t : Nat) from rfl] at hfc
      have hck' : Hd _ := hist_ck hh
      have hkp : Hd (∀ (i k : Nat) (hi : i < l.length) (hk : k < l.length), (!knP l[k] l[i]) = decide (l[i].ct ≤ ckAt l[k].ck l[i].tm)) := fun i k hi hk => knP_iff hH hi hk
      have htm : Hd (∀ (i k : Nat) (hi : i < l.length) (hk : k < l.length), ∃ T : Nat, l[i].tm = (T : Int) ∧ T < l[k].ck.length) := fun i k hi hk => by
        have q1 := inR_iff.1 (hH.st i hi).1
        have q2 := (hH.fl k hk).1
        exact ⟨l[i].tm.toNat, by omega, by omega⟩
      generalize fndE l t (cntE l t : Nat) = F at *
      generalize knwL l t = K at *
      generalize cntE l t = c at *
      clear h1 h2 hb hh hH hR3
      rcases hfc with hf | ⟨L, rfl, hLl⟩
      · have hk := hkn.out
        rw [if_pos hf] at hk
        subst hk
        have hfn : ¬ 0 ≤ F := by omega
        clear hkn hkp htm
        refine ACall.of (N := 67) tok Try.func41 rfl rfl rfl (by simp) ?_
        repeat' (first | with_reducible refine OutOK.done ?_ | refine thenQ_n ?_ | refine thenQ_r ?_ | refine thenQ_e ?_ | refine AW.seq ?_ | refine AW.dreg tok mixed [9, 16]  [(0, false), (1, false), (2, false), (3, false), (5, false), (6, false), (7, false), (8, false), (12, false), (13, false), (14, false), (15, false), (4, false), (9, true), (10, false), (11, false), (16, true), (17, false)] (by decide +kernel) rfl (by simp [*]; rfl) ?_ | refine AW.reg tok (by simp [*]; rfl) ?_ | refine AW.ifB (by simp [*]; rfl) ?_ | refine IfG.t ?_ | refine IfG.f ?_ | ((first | refine IfG.p (fun hg => ?_) (fun hg => ?_) | refine IfG.n (fun hg => ?_) (fun hg => ?_) | refine OutOK.gateP (fun hg => ?_) (fun hg => ?_) | refine OutOK.gateN (fun hg => ?_) (fun hg => ?_) | refine IfG.g (fun hg => ?_) (fun hg => ?_) | refine OutOK.gate (fun hg => ?_) (fun hg => ?_)) <;> (try (have hg' := hg; simp at hg'))) | (refine OutOK.callF [] (by simp [*]; rfl) (by simp [*]; rfl) (by simp [*]; rfl) hb74 (by apply cg <;> first | assumption | exact Hd.out (by assumption) | ((try clear e1); (try clear e2); omega)) ⟨by simp [*], by simp [*], by simp [*], by simp [*], by simp [*]⟩ (by simp [*]) (by simp [*]; rfl) ?_) | (refine OutOK.callF [] (by simp [*]; rfl) (by simp [*]; rfl) (by simp [*]; rfl) hb64 (by apply c_spec_l1In <;> first | assumption | exact Hd.out (by assumption) | ((try clear e1); (try clear e2); omega)) ⟨by simp [*], by simp [*], by simp [*], by simp [*], by simp [*]⟩ (by simp [*]) (by simp [*]; rfl) ?_) | (refine OutOK.callF [] (by simp [*]; rfl) (by simp [*]; rfl) (by simp [*]; rfl) hb90 (by apply ct <;> first | assumption | exact Hd.out (by assumption) | ((try clear e1); (try clear e2); omega)) ⟨by simp [*], by simp [*], by simp [*], by simp [*], by simp [*]⟩ (by simp [*]) (by simp [*]; rfl) ?_) | (refine OutOK.callF [] (by simp [*]; rfl) (by simp [*]; rfl) (by simp [*]; rfl) hb89 (by apply cf <;> first | assumption | exact Hd.out (by assumption) | ((try clear e1); (try clear e2); omega)) ⟨by simp [*], by simp [*], by simp [*], by simp [*], by simp [*]⟩ (by simp [*]) (by simp [*]; rfl) ?_) | refine OutOK.run (by simp [*]; rfl) ?_ | refine AW.ret ?_ | refine AW.skip ?_ | refine AW.exit ?_ | refine fin_r ?_ | refine fin_n ?_ | refine AW.block ?_ | refine blockQ_n ?_ | refine blockQ_r ?_ | refine blockQ_e ?_ | refine blockQ_o rfl ?_)
        refine AW.loopL (α := Nat) (fun i => i = 0) (fun i => [(0, .c (.sl true 5 (edts true l))), (8, .rf 11000 []), (9, .c (.sc (.int .i64 F))), (10, .c (.sc (.int .i64 (i : Int))))]) (fun _ => [(11000, .sv (.sl false 5 (edts false [])))]) (fun i => 1) 0 rfl ⟨by simp, by simp, by simp⟩ ?_
        rintro i rfl
        rcases Nat.eq_zero_or_pos l.length with h0 | h0
        · have h0' : ¬ 0 < l.length := by omega
          repeat' (first | with_reducible refine OutOK.done ?_ | refine thenQ_n ?_ | refine thenQ_r ?_ | refine thenQ_e ?_ | refine AW.seq ?_ | refine AW.dreg tok mixed [9, 16]  [(0, false), (1, false), (2, false), (3, false), (5, false), (6, false), (7, false), (8, false), (12, false), (13, false), (14, false), (15, false), (4, false), (9, true), (10, false), (11, false), (16, true), (17, false)] (by decide +kernel) rfl (by simp [*]; rfl) ?_ | refine AW.reg tok (by simp [*]; rfl) ?_ | refine AW.ifB (by simp [*]; rfl) ?_ | refine IfG.t ?_ | refine IfG.f ?_ | ((first | refine IfG.p (fun hg => ?_) (fun hg => ?_) | refine IfG.n (fun hg => ?_) (fun hg => ?_) | refine OutOK.gateP (fun hg => ?_) (fun hg => ?_) | refine OutOK.gateN (fun hg => ?_) (fun hg => ?_) | refine IfG.g (fun hg => ?_) (fun hg => ?_) | refine OutOK.gate (fun hg => ?_) (fun hg => ?_)) <;> (try (have hg' := hg; simp at hg'))) | refine OutOK.run (by simp [*]; rfl) ?_ | refine AW.ret ?_ | refine AW.skip ?_ | refine AW.exit ?_ | refine fin_r ?_ | refine fin_n ?_ | refine AW.block ?_ | refine blockQ_n ?_ | refine blockQ_r ?_ | refine blockQ_e ?_ | refine blockQ_o rfl ?_)
          simp [Try.f41]
        · repeat' (first | with_reducible refine OutOK.done ?_ | refine thenQ_n ?_ | refine thenQ_r ?_ | refine thenQ_e ?_ | refine AW.seq ?_ | refine AW.dreg tok mixed [9, 16]  [(0, false), (1, false), (2, false), (3, false), (5, false), (6, false), (7, false), (8, false), (12, false), (13, false), (14, false), (15, false), (4, false), (9, true), (10, false), (11, false), (16, true), (17, false)] (by decide +kernel) rfl (by simp [*]; rfl) ?_ | refine AW.reg tok (by simp [*]; rfl) ?_ | refine AW.ifB (by simp [*]; rfl) ?_ | refine IfG.t ?_ | refine IfG.f ?_ | ((first | refine IfG.p (fun hg => ?_) (fun hg => ?_) | refine IfG.n (fun hg => ?_) (fun hg => ?_) | refine OutOK.gateP (fun hg => ?_) (fun hg => ?_) | refine OutOK.gateN (fun hg => ?_) (fun hg => ?_) | refine IfG.g (fun hg => ?_) (fun hg => ?_) | refine OutOK.gate (fun hg => ?_) (fun hg => ?_)) <;> (try (have hg' := hg; simp at hg'))) | refine OutOK.run (by simp [*]; rfl) ?_ | refine AW.ret ?_ | refine AW.skip ?_ | refine AW.exit ?_ | refine fin_r ?_ | refine fin_n ?_ | refine AW.block ?_ | refine blockQ_n ?_ | refine blockQ_r ?_ | refine blockQ_e ?_ | refine blockQ_o rfl ?_)
          simp [Try.f41]
      · have hk := hkn.out
        have hLn : ¬ (L : Int) < 0 := by omega
        have hLp : 0 ≤ (L : Int) := by omega
        rw [if_neg hLn] at hk
        simp only [Int.toNat_natCast, List.getElem?_eq_getElem hLl, Option.getD_some] at hk
        subst hk
        clear hkn
        refine ACall.of (N := 67) tok Try.func41 rfl rfl rfl (by simp) ?_
        repeat' (first | with_reducible refine OutOK.done ?_ | refine thenQ_n ?_ | refine thenQ_r ?_ | refine thenQ_e ?_ | refine AW.seq ?_ | refine AW.dreg tok mixed [9, 16]  [(0, false), (1, false), (2, false), (3, false), (5, false), (6, false), (7, false), (8, false), (12, false), (13, false), (14, false), (15, false), (4, false), (9, true), (10, false), (11, false), (16, true), (17, false)] (by decide +kernel) rfl (by simp [*]; rfl) ?_ | refine AW.reg tok (by simp [*]; rfl) ?_ | refine AW.ifB (by simp [*]; rfl) ?_ | refine IfG.t ?_ | refine IfG.f ?_ | ((first | refine IfG.p (fun hg => ?_) (fun hg => ?_) | refine IfG.n (fun hg => ?_) (fun hg => ?_) | refine OutOK.gateP (fun hg => ?_) (fun hg => ?_) | refine OutOK.gateN (fun hg => ?_) (fun hg => ?_) | refine IfG.g (fun hg => ?_) (fun hg => ?_) | refine OutOK.gate (fun hg => ?_) (fun hg => ?_)) <;> (try (have hg' := hg; simp at hg'))) | (refine OutOK.callF [] (by simp [*]; rfl) (by simp [*]; rfl) (by simp [*]; rfl) hb74 (by apply cg <;> first | assumption | exact Hd.out (by assumption) | ((try clear e1); (try clear e2); omega)) ⟨by simp [*], by simp [*], by simp [*], by simp [*], by simp [*]⟩ (by simp [*]) (by simp [*]; rfl) ?_) | (refine OutOK.callF [] (by simp [*]; rfl) (by simp [*]; rfl) (by simp [*]; rfl) hb64 (by apply c_spec_l1In <;> first | assumption | exact Hd.out (by assumption) | ((try clear e1); (try clear e2); omega)) ⟨by simp [*], by simp [*], by simp [*], by simp [*], by simp [*]⟩ (by simp [*]) (by simp [*]; rfl) ?_) | (refine OutOK.callF [] (by simp [*]; rfl) (by simp [*]; rfl) (by simp [*]; rfl) hb90 (by apply ct <;> first | assumption | exact Hd.out (by assumption) | ((try clear e1); (try clear e2); omega)) ⟨by simp [*], by simp [*], by simp [*], by simp [*], by simp [*]⟩ (by simp [*]) (by simp [*]; rfl) ?_) | (refine OutOK.callF [] (by simp [*]; rfl) (by simp [*]; rfl) (by simp [*]; rfl) hb89 (by apply cf <;> first | assumption | exact Hd.out (by assumption) | ((try clear e1); (try clear e2); omega)) ⟨by simp [*], by simp [*], by simp [*], by simp [*], by simp [*]⟩ (by simp [*]) (by simp [*]; rfl) ?_) | refine OutOK.run (by simp [*]; rfl) ?_ | refine AW.ret ?_ | refine AW.skip ?_ | refine AW.exit ?_ | refine fin_r ?_ | refine fin_n ?_ | refine AW.block ?_ | refine blockQ_n ?_ | refine blockQ_r ?_ | refine blockQ_e ?_ | refine blockQ_o rfl ?_)
        refine AW.loopS (α := Nat) (fun i => i ≤ l.length) (fun i => [(0, .c (.sl true 5 (edts true l))), (8, .rf 11000 []), (9, .c (.sc (.int .i64 (L : Int)))), (10, .c (.sc (.int .i64 (i : Int))))]) (fun i => [(11000, .sv (.sl false 5 (edts false ((l.take i).filter fun x => !knP l[L] x))))]) (fun i => l.length - i) 0 (Nat.zero_le _) [] (by simp) ⟨by simp, by simp, by simp⟩ ?_
        intro i hi
        rcases Nat.lt_or_ge i l.length with hl | hl
        · have e2 : wrap64 ((i : Int) + 1) = ((i + 1 : Nat) : Int) := by rw [w64 (by omega) (by omega)]; omega
          obtain ⟨T, hT, hTl⟩ := htm.out i L hl hLl
          have hkpi := hkp.out i L hl hLl
          have cy := c_spec_l22Copy l[i] (by have := hck'.out _ (List.getElem_mem hl); omega)
          have hy : Hd (knP l[L] l[i] = false → (l.take (i + 1)).filter (fun x => !knP l[L] x) = (l.take i).filter (fun x => !knP l[L] x) ++ [l[i]]) := filt_no hl
          have hno : Hd (knP l[L] l[i] = true → (l.take (i + 1)).filter (fun x => !knP l[L] x) = (l.take i).filter (fun x => !knP l[L] x)) := filt_yes hl
          have hlen : ((l.take i).filter (fun x => !knP l[L] x)).length ≤ 24 := by have := List.length_filter_le (fun x => !knP l[L] x) (l.take i); have := List.length_take_le i l; omega
          generalize hso : (l.take (i + 1)).filter (fun x => !knP l[L] x) = sn at *
          generalize (l.take i).filter (fun x => !knP l[L] x) = so at *
          have hso' : Hd _ := hso
          clear hso
          have b1 : (so.length + 1) * 72 ≤ 140737488355328 := by ((try clear e1); (try clear e2); omega)
          have b2 : so.length + 1 ≤ 4611686018427387904 := by ((try clear e1); (try clear e2); omega)
          obtain ⟨tm, ct2, ck, it, tx, he⟩ : ∃ tm ct ck it tx, l[i] = ⟨tm, ct, ck, it, tx⟩ := ⟨_, _, _, _, _, rfl⟩
          rw [he] at hT hkpi cy hy hno
          simp only at hT hkpi
          subst hT
          have hca : ckAt l[L].ck (T : Int) = l[L].ck[T] := by simp [ckAt, hTl]
          rw [hca] at hkpi
          generalize knP l[L] ⟨(T : Int), ct2, ck, it, tx⟩ = kp at *
          have hkpi' : Hd _ := hkpi
          clear hkpi hca
          by_cases hc : ct2 ≤ l[L].ck[T]
          · have hsn := hy.out (by have := hkpi'.out; simpa [hc] using this)
            have hsn' : Hd _ := hsn
            clear hsn hy hno
            repeat' (first | with_reducible refine OutOK.done ?_ | refine thenQ_n ?_ | refine thenQ_r ?_ | refine thenQ_e ?_ | refine AW.seq ?_ | refine AW.dreg tok mixed [9, 16]  [(0, false), (1, false), (2, false), (3, false), (5, false), (6, false), (7, false), (8, false), (12, false), (13, false), (14, false), (15, false), (4, false), (9, true), (10, false), (11, false), (16, true), (17, false)] (by decide +kernel) rfl (by simp [*]; rfl) ?_ | refine AW.reg tok (by simp [*]; rfl) ?_ | refine AW.ifB (by simp [*]; rfl) ?_ | refine IfG.t ?_ | refine IfG.f ?_ | ((first | refine IfG.p (fun hg => ?_) (fun hg => ?_) | refine IfG.n (fun hg => ?_) (fun hg => ?_) | refine OutOK.gateP (fun hg => ?_) (fun hg => ?_) | refine OutOK.gateN (fun hg => ?_) (fun hg => ?_) | refine IfG.g (fun hg => ?_) (fun hg => ?_) | refine OutOK.gate (fun hg => ?_) (fun hg => ?_)) <;> (try (have hg' := hg; simp at hg'))) | (refine OutOK.callF [] (by simp [*]; rfl) (by simp [*]; rfl) (by simp [*]; rfl) hb91 (by apply cy <;> first | assumption | exact Hd.out (by assumption) | ((try clear e1); (try clear e2); omega)) ⟨by simp [*], by simp [*], by simp [*], by simp [*], by simp [*]⟩ (by simp [*]) (by simp [*]; rfl) ?_) | refine OutOK.run (by simp [*]; rfl) ?_ | refine AW.ret ?_ | refine AW.skip ?_ | refine AW.exit ?_ | refine fin_r ?_ | refine fin_n ?_ | refine AW.block ?_ | refine blockQ_n ?_ | refine blockQ_r ?_ | refine blockQ_e ?_ | refine blockQ_o rfl ?_)
            exact ⟨i + 1, hl, ⟨[(65000, 11000)], by simp, by simp, by simp [hso'.out, hsn'.out], by simp⟩, by ((try clear e1); (try clear e2); omega)⟩
          · have hsn := hno.out (by have := hkpi'.out; simpa [hc] using this)
            have hsn' : Hd _ := hsn
            clear hsn hy hno
            repeat' (first | with_reducible refine OutOK.done ?_ | refine thenQ_n ?_ | refine thenQ_r ?_ | refine thenQ_e ?_ | refine AW.seq ?_ | refine AW.dreg tok mixed [9, 16]  [(0, false), (1, false), (2, false), (3, false), (5, false), (6, false), (7, false), (8, false), (12, false), (13, false), (14, false), (15, false), (4, false), (9, true), (10, false), (11, false), (16, true), (17, false)] (by decide +kernel) rfl (by simp [*]; rfl) ?_ | refine AW.reg tok (by simp [*]; rfl) ?_ | refine AW.ifB (by simp [*]; rfl) ?_ | refine IfG.t ?_ | refine IfG.f ?_ | ((first | refine IfG.p (fun hg => ?_) (fun hg => ?_) | refine IfG.n (fun hg => ?_) (fun hg => ?_) | refine OutOK.gateP (fun hg => ?_) (fun hg => ?_) | refine OutOK.gateN (fun hg => ?_) (fun hg => ?_) | refine IfG.g (fun hg => ?_) (fun hg => ?_) | refine OutOK.gate (fun hg => ?_) (fun hg => ?_)) <;> (try (have hg' := hg; simp at hg'))) | (refine OutOK.callF [] (by simp [*]; rfl) (by simp [*]; rfl) (by simp [*]; rfl) hb91 (by apply cy <;> first | assumption | exact Hd.out (by assumption) | ((try clear e1); (try clear e2); omega)) ⟨by simp [*], by simp [*], by simp [*], by simp [*], by simp [*]⟩ (by simp [*]) (by simp [*]; rfl) ?_) | refine OutOK.run (by simp [*]; rfl) ?_ | refine AW.ret ?_ | refine AW.skip ?_ | refine AW.exit ?_ | refine fin_r ?_ | refine fin_n ?_ | refine AW.block ?_ | refine blockQ_n ?_ | refine blockQ_r ?_ | refine blockQ_e ?_ | refine blockQ_o rfl ?_)
            exact ⟨i + 1, hl, ⟨[], by simp, by simp, by simp [hso'.out, hsn'.out], by simp⟩, by ((try clear e1); (try clear e2); omega)⟩
        · have hii : i = l.length := by omega
          have hin : ¬ i < l.length := by omega
          have ht : l.take i = l := List.take_of_length_le hl
          rw [ht]
          clear ht hii
          generalize (l.filter fun x => !knP l[L] x) = R at *
          repeat' (first | with_reducible refine OutOK.done ?_ | refine thenQ_n ?_ | refine thenQ_r ?_ | refine thenQ_e ?_ | refine AW.seq ?_ | refine AW.dreg tok mixed [9, 16]  [(0, false), (1, false), (2, false), (3, false), (5, false), (6, false), (7, false), (8, false), (12, false), (13, false), (14, false), (15, false), (4, false), (9, true), (10, false), (11, false), (16, true), (17, false)] (by decide +kernel) rfl (by simp [*]; rfl) ?_ | refine AW.reg tok (by simp [*]; rfl) ?_ | refine AW.ifB (by simp [*]; rfl) ?_ | refine IfG.t ?_ | refine IfG.f ?_ | ((first | refine IfG.p (fun hg => ?_) (fun hg => ?_) | refine IfG.n (fun hg => ?_) (fun hg => ?_) | refine OutOK.gateP (fun hg => ?_) (fun hg => ?_) | refine OutOK.gateN (fun hg => ?_) (fun hg => ?_) | refine IfG.g (fun hg => ?_) (fun hg => ?_) | refine OutOK.gate (fun hg => ?_) (fun hg => ?_)) <;> (try (have hg' := hg; simp at hg'))) | refine OutOK.run (by simp [*]; rfl) ?_ | refine AW.ret ?_ | refine AW.skip ?_ | refine AW.exit ?_ | refine fin_r ?_ | refine fin_n ?_ | refine AW.block ?_ | refine blockQ_n ?_ | refine blockQ_r ?_ | refine blockQ_e ?_ | refine blockQ_o rfl ?_)
          simp [Try.f41]
end Go.Proofs.Ytbofobjofngoeaa.EngS


/-
  DERIVED: THE SHELF's CONTRACTS AT THIS DUMP, IN PLAIN WORDS (tools/lay-plain.mjs out of 'TryShelfB.lean', which tools/lay-shelf.mjs wrote): THE SAME DECLARATIONS UNDER THE SAME NAMES: 'import', 'namespace', 'open', 'def', 'theorem' AND NOTHING ELSE: no command of the shelf's: FOR A HAND-IN. Each laying: the table of numbers ('.._ren') and one theorem, a field a fact of the dump's own or the kernel's comparison; each contract: ONE APPLICATION.
-/
namespace Go.Proofs
open Go.Shelf
def Try.sortE_ren : Go.Shelf.Ren := ⟨fun | 6 => 102 | 15 => 129 | 14 => 132 | 28 => 151 | 29 => 152 | 20 => 153 | 21 => 154 | 22 => 155 | 23 => 156 | 24 => 157 | 25 => 158 | 26 => 159 | 27 => 160 | 46 => 173 | 47 => 168 | 48 => 169 | 49 => 174 | 50 => 175 | 57 => 179 | n => n, fun | 22 => 40 | 24 => 58 | 25 => 96 | 3 => 3 | 39 => 135 | 0 => 0 | 53 => 150 | 55 => 116 | 4 => 4 | 46 => 144 | 45 => 143 | 50 => 44 | 5 => 5 | 9 => 9 | 66 => 159 | 70 => 163 | 76 => 169 | 77 => 170 | n => n, fun | n => n⟩
theorem Try.sortE : Go.Proofs.SlLaysF0.n6 Try.prog Try.sortE_ren := {
  mixed := by kernel_rfl
  f6 := ⟨Try.f102.name, by decide, Try.func102.trans (congrArg some (by kernel_rfl))⟩
  f14 := ⟨Try.f132.name, by decide, Try.func132.trans (congrArg some (by kernel_rfl))⟩
  f15 := Try.func129.trans (congrArg some (by kernel_rfl))
  f20 := ⟨Try.f153.name, by decide, Try.func153.trans (congrArg some (by kernel_rfl))⟩
  f21 := ⟨Try.f154.name, by decide, Try.func154.trans (congrArg some (by kernel_rfl))⟩
  f22 := ⟨Try.f155.name, by decide, Try.func155.trans (congrArg some (by kernel_rfl))⟩
  f23 := ⟨Try.f156.name, by decide, Try.func156.trans (congrArg some (by kernel_rfl))⟩
  f24 := ⟨Try.f157.name, by decide, Try.func157.trans (congrArg some (by kernel_rfl))⟩
  f25 := ⟨Try.f158.name, by decide, Try.func158.trans (congrArg some (by kernel_rfl))⟩
  f26 := ⟨Try.f159.name, by decide, Try.func159.trans (congrArg some (by kernel_rfl))⟩
  f27 := ⟨Try.f160.name, by decide, Try.func160.trans (congrArg some (by kernel_rfl))⟩
  f28 := Try.func151.trans (congrArg some (by kernel_rfl))
  f29 := Try.func152.trans (congrArg some (by kernel_rfl))
  f46 := ⟨Try.f173.name, by decide, Try.func173.trans (congrArg some (by kernel_rfl))⟩
  f47 := Try.func168.trans (congrArg some (by kernel_rfl))
  f48 := Try.func169.trans (congrArg some (by kernel_rfl))
  f49 := ⟨Try.f174.name, by decide, Try.func174.trans (congrArg some (by kernel_rfl))⟩
  f50 := ⟨Try.f175.name, by decide, Try.func175.trans (congrArg some (by kernel_rfl))⟩
  f57 := ⟨Try.f179.name, by decide, Try.func179.trans (congrArg some (by kernel_rfl))⟩
  t0 := Try.underlying0
  a0 := Try.isAgg0
  z0 := Try.sizeOf0
  v0 := Try.zeroValue0
  t3 := Try.underlying3
  a3 := Try.isAgg3
  z3 := Try.sizeOf3
  v3 := Try.zeroValue3
  t4 := Try.underlying4
  a4 := Try.isAgg4
  z4 := Try.sizeOf4
  v4 := Try.zeroValue4
  t5 := Try.underlying5
  a5 := Try.isAgg5
  z5 := Try.sizeOf5
  v5 := Try.zeroValue5
  t9 := Try.underlying9
  a9 := Try.isAgg9
  z9 := Try.sizeOf9
  v9 := Try.zeroValue9
  t22 := Try.underlying40
  a22 := Try.isAgg40
  z22 := Try.sizeOf40
  v22 := Try.zeroValue40
  t25 := Try.underlying96
  a25 := Try.isAgg96
  z25 := Try.sizeOf96
  v25 := Try.zeroValue96
  t39 := Try.underlying135
  a39 := Try.isAgg135
  z39 := Try.sizeOf135
  v39 := Try.zeroValue135
  t45 := Try.underlying143
  a45 := Try.isAgg143
  z45 := Try.sizeOf143
  v45 := Try.zeroValue143
  t46 := Try.underlying144
  a46 := Try.isAgg144
  z46 := Try.sizeOf144
  v46 := Try.zeroValue144
  t50 := Try.underlying44
  a50 := Try.isAgg44
  z50 := Try.sizeOf44
  v50 := Try.zeroValue44
  t53 := Try.underlying150
  a53 := Try.isAgg150
  z53 := Try.sizeOf150
  v53 := Try.zeroValue150
  t55 := Try.underlying116
  a55 := Try.isAgg116
  z55 := Try.sizeOf116
  v55 := Try.zeroValue116
  t66 := Try.underlying159
  a66 := Try.isAgg159
  z66 := Try.sizeOf159
  v66 := Try.zeroValue159
  t70 := Try.underlying163
  a70 := Try.isAgg163
  z70 := Try.sizeOf163
  v70 := Try.zeroValue163
  t76 := Try.underlying169
  a76 := Try.isAgg169
  z76 := Try.sizeOf169
  v76 := Try.zeroValue169
  t77 := Try.underlying170
  a77 := Try.isAgg170
  z77 := Try.sizeOf170
  v77 := Try.zeroValue170 }
end Go.Proofs

set_option linter.all false
namespace Go.Eng
open Go Go.Proofs Go.Shelf Go.RowKit
variable {P : Program} {ρ : Ren}
theorem GW.cell {P : Program} {w : World} {Z : Nat → Prop} (h : GW P w Z) {a : Nat} (hf : ∀ w : World, w.ShapedOpen P → ∃ m : Int, w.cell? ⟨a, 0, none⟩ = some (.int .i64 m)) : ∃ m : Int, w.cell? ⟨a, 0, none⟩ = some (.int .i64 m) := by
  obtain ⟨W0, h0, h1⟩ := h
  obtain ⟨m, hm⟩ := hf W0 h0
  refine ⟨m, ?_⟩
  by_cases hb : a < W0.heap.size
  · have := (h1 a hb).2
    simp only [World.cell?] at hm ⊢
    rw [this]; exact hm
  · simp only [World.cell?] at hm
    rw [Array.getElem?_eq_none (by omega)] at hm
    simp at hm
end Go.Eng

set_option linter.all false
namespace Go.Eng
open Go Go.Proofs Go.Shelf Go.RowKit Go.Sort
variable {P : Program} {ρ : Ren} {β : Type}
structure Elt (β : Type) where
  x : β
  vs : List Value
  own : Nat → Prop
def EltOK (w : World) (Z : Nat → Prop) (c : β → List PV) (k : Nat) (S : Nat → Prop) (t : Elt β) : Prop := RVs w Z (c t.x) t.vs t.own ∧ (c t.x).length = k ∧ ∀ b, t.own b → S b
def Apart (a b : Elt β) : Prop := ∀ q, a.own q → b.own q → False
theorem RE_elts {w : World} {Z : Nat → Prop} {b k : Nat} (c : β → List PV) (hc : ∀ x, PV.coks (c x) = true) : ∀ (xs : List β) (o : Nat) (S : Nat → Prop), RE w Z (xs.map fun x => .ag (c x)) b o k S →
    ∃ ts : List (Elt β), ts.map Elt.x = xs ∧ (∀ t ∈ ts, EltOK w Z c k S t) ∧ ts.Pairwise Apart ∧ (∀ i t, ts[i]? = some t → ∀ j v, t.vs[j]? = some v → w.cell? ⟨b, o + i * k + j, none⟩ = some v)
  | [], o, S, _ => ⟨[], rfl, by simp, .nil, by simp⟩
  | x :: xs, o, S, h => by
    rw [List.map_cons, RE_cons] at h
    obtain ⟨S1, S2, hsep, ⟨hlen, hRC⟩, h2⟩ := h
    obtain ⟨vs, hv, hr⟩ := RC_vals (c x) o S1 hRC (hc x)
    obtain ⟨ts, e1, e2, e3, e4⟩ := RE_elts c hc xs (o + k) S2 h2
    refine ⟨⟨x, vs, S1⟩ :: ts, by simp [e1], ?_, ?_, ?_⟩
    · intro t ht
      rcases List.mem_cons.1 ht with rfl | ht
      · exact ⟨hr, hlen, hsep.1⟩
      · obtain ⟨a1, a2, a3⟩ := e2 t ht
        exact ⟨a1, a2, fun q hq => hsep.2.1 q (a3 q hq)⟩
    · exact List.pairwise_cons.2 ⟨fun t ht q h1 h2 => hsep.2.2 q h1 ((e2 t ht).2.2 q h2), e3⟩
    · intro i t hi j v hj
      cases i with
      | zero => simp at hi; subst hi; rw [Nat.zero_mul, Nat.add_zero]; exact hv j v hj
      | succ i => simp at hi; have := e4 i t hi j v hj; rwa [show o + k + i * k + j = o + (i + 1) * k + j by rw [Nat.add_mul]; omega] at this
theorem RE_of_elts {w : World} {Z : Nat → Prop} {b k : Nat} (c : β → List PV) : ∀ (ts : List (Elt β)) (o : Nat) (S : Nat → Prop), (∀ t ∈ ts, EltOK w Z c k S t) → ts.Pairwise Apart →
    (∀ i t, ts[i]? = some t → ∀ j v, t.vs[j]? = some v → w.cell? ⟨b, o + i * k + j, none⟩ = some v) → RE w Z ((ts.map Elt.x).map fun x => .ag (c x)) b o k S
  | [], o, S, _, _, _ => by rw [List.map_nil, List.map_nil, RE_nil]; trivial
  | t :: ts, o, S, h1, h2, h3 => by
    rw [List.map_cons, List.map_cons, RE_cons]
    obtain ⟨p1, p2⟩ := List.pairwise_cons.1 h2
    obtain ⟨a1, a2, a3⟩ := h1 t (by simp)
    refine ⟨t.own, fun q => ∃ u ∈ ts, u.own q, ⟨a3, fun q ⟨u, hu, hq⟩ => (h1 u (by simp [hu])).2.2 q hq, fun q hq ⟨u, hu, hq2⟩ => p1 u hu q hq hq2⟩, ⟨a2, ?_⟩, ?_⟩
    · exact RC_of_RVs (c t.x) t.vs o t.own a1 (fun j v hj => by have := h3 0 t (by simp) j v hj; rwa [Nat.zero_mul, Nat.add_zero] at this)
    · refine RE_of_elts c ts (o + k) _ (fun u hu => ?_) p2 (fun i u hi j v hj => ?_)
      · obtain ⟨b1, b2, b3⟩ := h1 u (by simp [hu])
        exact ⟨b1, b2, fun q hq => ⟨u, hu, hq⟩⟩
      · have := h3 (i + 1) u (by simpa using hi) j v hj
        rwa [show o + k + i * k + j = o + (i + 1) * k + j by rw [Nat.add_mul]; omega]
theorem RVs_frz {w : World} {Z Z' : Nat → Prop} : ∀ (cs : List PV) (vs : List Value) (S S' : Nat → Prop), (∀ b, Z b ∨ S b → Z' b) → RVs w Z cs vs S → RVs w Z' (PV.frzs cs) vs S'
  | [], vs, S, S', _, h => by simpa [PV.frzs, RVs] using h
  | c :: cs, vs, S, S', hz, h => by
    obtain ⟨v, vs', S1, S2, rfl, hsep, ho, h1, h2⟩ := h
    rw [PV.frzs]
    exact ⟨v, vs', fun _ => False, S', rfl, ⟨fun _ h => h.elim, fun _ h => h, fun _ h => h.elim⟩, ho, RV_frz c v S1 _ (fun b h => hz b (h.imp id (hsep.1 b))) h1, RVs_frz cs vs' S2 S' (fun b h => hz b (h.imp id (hsep.2.1 b))) h2⟩
theorem RVs_slots {w : World} {Z : Nat → Prop} : ∀ (cs : List PV) (vs : List Value) (S : Nat → Prop), RVs w Z cs vs S → SlotRs w Z cs vs S ∧ ∀ c ∈ cs, c.isAg = false
  | [], vs, S, h => ⟨h, by simp⟩
  | c :: cs, vs, S, h => by
    obtain ⟨v, vs', S1, S2, rfl, hsep, ho, h1, h2⟩ := h
    obtain ⟨g1, g2⟩ := RVs_slots cs vs' S2 h2
    have hag : c.isAg = false := by
      cases c with
      | ag => rw [RV_ag] at h1; exact h1.elim
      | _ => rfl
    refine ⟨⟨v, vs', S1, S2, rfl, hsep, ?_, g1⟩, ?_⟩
    · cases c with
      | ag => rw [RV_ag] at h1; exact h1.elim
      | _ => exact h1
    · intro d hd
      rcases List.mem_cons.1 hd with rfl | hd
      · exact hag
      · exact g2 d hd
theorem sw_other {α : Type} [Inhabited α] (enc : α → List Value) (k : Nat) (w : World) (blk m : Nat) (dk : Array α) (os : Array Obj) (q : Nat) (h : q ≠ blk) (hq : q < w.heap.size) : (sortWorldK enc k w blk 0 m dk os).heap[q]? = w.heap[q]? := by
  simp only [sortWorldK, putRowK, putRow, mapBlock, grow, Sort.ahead]
  rw [Array.getElem?_append_left (by simpa using hq), Array.getElem?_modify, if_neg (Ne.symm h)]
theorem sw_size {α : Type} [Inhabited α] (enc : α → List Value) (k : Nat) (w : World) (blk m : Nat) (dk : Array α) (os : Array Obj) : (sortWorldK enc k w blk 0 m dk os).heap.size = w.heap.size + os.size := by
  simp [sortWorldK, putRowK, putRow, mapBlock, grow, Sort.ahead]
theorem sw_blk {α : Type} [Inhabited α] (enc : α → List Value) (k : Nat) (w : World) (blk m : Nat) (dk : Array α) (os : Array Obj) {cur : Array Value} {ty : TypeId} {fr : Nat × Nat} (h : w.heap[blk]? = some (.cells cur ty fr)) :
    ∃ cur', (sortWorldK enc k w blk 0 m dk os).heap[blk]? = some (.cells cur' ty fr) ∧ cur'.size = cur.size := by
  have hb : blk < w.heap.size := by
    refine Classical.byContradiction fun hn => ?_
    rw [Array.getElem?_eq_none (by omega)] at h
    cases h
  refine ⟨putCells id 0 (flatK enc k dk) cur, ?_, by simp [putCells]⟩
  simp only [sortWorldK, putRowK, putRow, mapBlock, grow, Sort.ahead]
  rw [Array.getElem?_append_left (by simpa using hb), Array.getElem?_modify, if_pos rfl, h]
  rfl
theorem world_grow {w w' : World} (h1 : w'.os = w.os) (h2 : TD w w') (h3 : w'.output = w.output) (h4 : w.heap.size ≤ w'.heap.size) (h5 : ∀ b, b < w.heap.size → w'.heap[b]? = w.heap[b]?) : ∃ q os', w' = grow (w.drewN q) os' := by
  refine ⟨w'.drawn - w.drawn, w'.heap.extract w.heap.size w'.heap.size, ?_⟩
  obtain ⟨hp, tp, dr, o, ou⟩ := w'
  obtain ⟨hp0, tp0, dr0, o0, ou0⟩ := w
  obtain ⟨t1, t2⟩ := h2
  simp only at h1 h3 h4 h5 t1 t2
  subst h1 h3 t1
  simp only [grow, World.drewN, World.mk.injEq, and_true]
  refine ⟨?_, trivial, by omega⟩
  apply Array.ext_getElem?
  intro i
  by_cases hi : i < hp0.size
  · rw [Array.getElem?_append_left hi, h5 i hi]
  · rw [Array.getElem?_append_right (by omega), Array.getElem?_extract]
    by_cases h2 : i < hp.size
    · rw [if_pos (by omega), show hp0.size + (i - hp0.size) = i by omega]
    · rw [if_neg (by omega), Array.getElem?_eq_none (by omega)]
end Go.Eng

set_option linter.all false
namespace Go.Eng
open Go Go.Proofs Go.Shelf Go.RowKit Go.Sort
variable {P : Program} {ρ : Ren} {β : Type}
theorem sort_call (L : SlLaysF0.n6 P ρ) (k : Nat) (aE : ∀ w, (isAgg (ρ.t 24)).run P w = .ok true w) (zE : ∀ w, (Go.sizeOf (ρ.t 24)).run P w = .ok k w) (c cz : β → List PV) (hc : ∀ x, PV.coks (c x) = true) (hfz : ∀ x, PV.frzs (c x) = cz x)
    (key : β → β → Int) (hO : SWO (Go.Proofs.ltOf key)) (g : Nat) (eg : ∀ args w, (callFunc g args).run P w = .ok (.enter g args) w) (xs : List β) (hsz : xs.length < 4611686018427387904)
    (hcmp : ∀ x ∈ xs, ∀ y ∈ xs, ACall P g [.g (cz x), .g (cz y)] [.x, .x] [.v (.sc (.int .i64 (key x y)))]) :
    ACallX P (ρ.f 6) [.v (.sl false k (xs.map fun x => .ag (c x))), .f g []] (fun l : List β => l.Perm xs ∧ l.Pairwise (fun a b => ¬ key b a < 0)) (fun l => [.v (.sl false k (l.map fun x => .ag (c x))), .x]) (fun _ => []) := by
  intro w Z S vals hg hd hlt hSZ
  obtain ⟨v1, vs, S1, S2, rfl, sep1, h1, v2, vs2, S3, S4, rfl, sep2, ⟨arr, rfl, harr⟩, rfl⟩ := hd
  obtain rfl : arr = #[] := by
    have : arr.toList = [] := harr
    exact Array.toList_eq_nil_iff.1 this
  have h0 : DR w Z (.v (.sl false k (xs.map fun x => .ag (c x)))) v1 S1 := h1
  simp only [DR] at h1
  rw [RV_ow] at h1
  -- no element
  have none_case : ∀ (p : Option Addr) (cap : Nat), xs = [] → v1 = .slice p 0 cap → Calls P (ρ.f 6) [v1, .func (.func g) #[] #[]].toArray w fun e w' => ∃ x : List β, (x.Perm xs ∧ x.Pairwise (fun a b => ¬ key b a < 0)) ∧ ∃ rvs S' Sr, e = .returned (resOf rvs) ∧ w'.os = w.os ∧ TD w w' ∧ w'.output = w.output ∧ w.heap.size ≤ w'.heap.size ∧
        (∀ b, b < w.heap.size → ¬ S b → w'.heap[b]? = w.heap[b]?) ∧ (∀ b, S' b ∨ Sr b → S b ∨ (w.heap.size ≤ b ∧ b < w'.heap.size)) ∧ (∀ b, S' b → Sr b → False) ∧
        DRs w' Z [.v (.sl false k (x.map fun x => .ag (c x))), .x] [v1, .func (.func g) #[] #[]] S' ∧ DRs w' Z [] rvs Sr := by
    intro p cap hx hv
    subst hx
    subst hv
    refine (AnyF.slices_SortFunc_none L p cap _ w).mono ?_
    rintro e w' ⟨rfl, rfl⟩
    refine ⟨[], ⟨.refl _, .nil⟩, [], S, fun _ => False, rfl, rfl, TD.refl, rfl, Nat.le_refl _, fun _ _ _ => rfl, fun b h => by simpa using Or.inl (h.resolve_right id), fun _ _ h => h, ?_, rfl⟩
    exact ⟨_, _, S1, S2, rfl, sep1, h0, _, _, S3, S4, rfl, sep2, trivial, rfl⟩
  rcases h1 with ⟨rfl, hl⟩ | ⟨b, cap, cur, ty, rfl, hcap, hb, hheap, hcs, hRE⟩
  · exact none_case none 0 (List.length_eq_zero_iff.1 (by simpa using hl)) rfl
  by_cases hx : xs = []
  · exact none_case (some ⟨b, 0, none⟩) cap hx (by rw [hx]; rfl)
  clear none_case
  obtain ⟨ts, e1, e2, e3, e4⟩ := RE_elts c hc xs 0 _ hRE
  have hbl : b < w.heap.size := hlt b (.inr (sep1.1 b hb))
  have hZb : ∀ q, Z q → q ≠ b := fun q hq e => hSZ b (sep1.1 b hb) (e ▸ hq)
  obtain ⟨t0, ht0⟩ : ∃ t0, t0 ∈ ts := by
    cases ts with
    | nil => exact (hx e1.symm).elim
    | cons t r => exact ⟨t, by simp⟩
  let α := { t : Elt β // t ∈ ts }
  letI : Inhabited α := ⟨⟨t0, ht0⟩⟩
  let enc : α → List Value := fun t => t.1.vs
  let d : Array α := ts.attach.toArray
  have hdl : d.toList = ts.attach := rfl
  have hds : d.size = xs.length := by rw [← e1, List.length_map]; exact List.length_attach
  have hk : ∀ x : α, (enc x).length = k := fun t => by
    obtain ⟨a1, a2, a3⟩ := e2 t.1 t.2
    exact (RVs_length _ _ _ a1).trans a2
  have ho1 : ∀ x : α, ∀ v ∈ enc x, v.oneCell' = true := fun t => RVs_one _ _ _ (e2 t.1 t.2).1
  have hxm : ∀ t : α, t.1.x ∈ xs := fun t => by rw [← e1]; exact List.mem_map.2 ⟨t.1, t.2, rfl⟩
  let cf : α → α → Int := fun s t => key s.1.x t.1.x
  have hO' : SWO (Go.Proofs.ltOf cf) := ⟨fun s => hO.irrefl _, fun s t u => hO.trans _ _ _, fun s t u => hO.ntrans _ _ _⟩
  have hdt : ∀ i (hi : i < d.size), d[i]! = d[i] := fun i hi => getElem!_pos d i hi
  have hdi : ∀ i (hi : i < d.size), ts[i]? = some (d[i]!).1 := by
    intro i hi
    rw [hdt i hi]
    have hi' : i < ts.length := by
      have h := hi
      rw [hds, ← e1, List.length_map] at h
      exact h
    rw [List.getElem?_eq_getElem hi']
    have h3 : (d[i]).1 = ts[i] := by
      show ((ts.attach.toArray)[i]).1 = _
      simp only [List.getElem_toArray, List.getElem_attach]
    rw [h3]
  have hfr : ∀ o, w.frozen? ⟨b, o, none⟩ = false := by
    intro o
    simp [World.frozen?, hheap]
  have hH : HoldsK enc k w b 0 d := by
    intro j hj
    rw [size_flatK] at hj
    have hk0 : 0 < k := by rcases Nat.eq_zero_or_pos k with h | h
                           · subst h; simp at hj
                           · exact h
    have hq : j / k < d.size := Nat.div_lt_of_lt_mul (by rwa [Nat.mul_comm])
    have hm : j % k < k := Nat.mod_lt _ hk0
    refine ⟨?_, hfr _⟩
    rw [get_flatK _ _ _ _ hj]
    have hvl : j % k < (enc d[j / k]!).length := by rw [hk]; exact hm
    have := e4 (j / k) _ (hdi _ hq) (j % k) _ (List.getElem?_eq_getElem hvl)
    rw [show 0 + j / k * k + j % k = 0 + j by have := Nat.div_add_mod j k; rw [Nat.mul_comm] at this; omega] at this
    rw [this, getElem!_pos (enc d[j / k]!) (j % k) hvl]
    rfl
  have hS1lt : ∀ q, S1 q → q < w.heap.size := fun q hq => hlt q (.inr (sep1.1 q hq))
  have hZlt : ∀ q, Z q → q < w.heap.size := fun q hq => hlt q (.inl hq)
  -- the comparison
  have hC : CmpLays P g #[] enc k cf b 0 d.size w := by
    intro m os dk hdk x y
    generalize hW : sortWorldK enc k w b 0 m dk os = W
    have hother : ∀ q, q ≠ b → q < w.heap.size → W.heap[q]? = w.heap[q]? := fun q h1 h2 => by rw [← hW]; exact sw_other enc k w b m dk os q h1 h2
    have hWs : W.heap.size = w.heap.size + os.size := by rw [← hW]; exact sw_size enc k w b m dk os
    have hZ' : GW P W (fun q => Z q ∨ (S1 q ∧ q ≠ b)) := hg.agr (fun q h => .inl h) (fun q hq => hother q (hZb q hq) (hZlt q hq))
    have hin : ∀ t : α, DR W (fun q => Z q ∨ (S1 q ∧ q ≠ b)) (.g (cz t.1.x)) (.agg (enc t).toArray) (fun _ => False) := by
      intro t
      obtain ⟨a1, a2, a3⟩ := e2 t.1 t.2
      have r1 : RVs W Z (c t.1.x) t.1.vs t.1.own := RVs_congr (fun q hq => hother q (hZb q hq) (hZlt q hq)) _ _ _ _ (fun q hq => hother q (a3 q hq).2 (hS1lt q (a3 q hq).1)) (fun _ h => h) a1
      have r2 := RVs_frz (Z' := fun q => Z q ∨ (S1 q ∧ q ≠ b)) _ _ _ (fun _ => False) (fun q h => h.imp id (a3 q)) r1
      rw [hfz] at r2
      obtain ⟨g1, g2⟩ := RVs_slots _ _ _ r2
      exact ⟨_, rfl, g1, g2, fun u hu => ho1 t u (by simpa using hu)⟩
    refine (hcmp _ (hxm x) _ (hxm y) W (fun q => Z q ∨ (S1 q ∧ q ≠ b)) (fun _ => False) [.agg (enc x).toArray, .agg (enc y).toArray] hZ' ⟨_, _, fun _ => False, fun _ => False, rfl, ⟨fun _ h => h, fun _ h => h, fun _ h => h.elim⟩, hin x, _, _, fun _ => False, fun _ => False, rfl, ⟨fun _ h => h, fun _ h => h, fun _ h => h.elim⟩, hin y, rfl⟩ ?_ (fun _ h => h.elim)).mono ?_
    · rintro q (h | h)
      · rw [hWs]
        rcases h with h | h
        · have := hZlt q h; omega
        · have := hS1lt q h.1; omega
      · exact h.elim
    · rintro e w' ⟨rvs, S', Sr, rfl, p1, p2, p3, p4, p5, -, -, -, u, us, T1, T2, rfl, -, hu, rfl⟩
      simp only [DR, RV_sc] at hu
      subst hu
      exact ⟨rfl, world_grow p1 p2 p3 p4 (fun q hq => p5 q hq (fun h => h))⟩
  have key2 := AnyQ.slices_SortFunc L k aE zE enc hk ho1 cf hO' g #[] b 0 cap d w eg hC hH hbl (by rw [hds]; exact hsz)
  have hlen : (xs.map fun x => PV.ag (c x)).length = d.size := by rw [hds, List.length_map]
  rw [hlen]
  refine Calls.mono key2 ?_
  rintro e w' ⟨rfl, d', n, os, ⟨hp1, hp2, hp3⟩, hs, rfl⟩
  have hd' : d'.extract 0 d.size = d' := by rw [← hp1]; simp
  have hd0 : d.extract 0 d.size = d := by simp
  rw [hd', hd0] at hp3
  obtain ⟨us, hus⟩ : ∃ us : List (Elt β), us = d'.toList.map (·.1) := ⟨_, rfl⟩
  have hper : us.Perm ts := by
    rw [hus]
    have := hp3.map (·.1)
    rw [hdl] at this
    exact this.trans (by rw [show (ts.attach.map fun a => a.1) = ts from List.attach_map_subtype_val ts])
  have hul : us.length = d.size := by rw [hus, List.length_map, Array.length_toList, hp1]
  have hui : ∀ i (hi : i < d'.size), us[i]? = some (d'[i]!).1 := by
    intro i hi
    rw [hus, List.getElem?_map, getElem!_pos d' i hi, List.getElem?_eq_getElem (by simpa using hi)]
    simp
  refine ⟨us.map Elt.x, ⟨by rw [← e1]; exact hper.map _, ?_⟩, [], S, fun _ => False, rfl, rfl, ⟨rfl, Nat.le_add_right _ _⟩, rfl, by rw [sw_size]; omega, ?_, fun q h => .inl (h.resolve_right id), fun _ _ h => h, ?_, rfl⟩
  · rw [List.pairwise_iff_getElem]
    intro i j hi hj hij
    have hi2 : i < d'.size := by rw [hp1, ← hul]; simpa using hi
    have hj2 : j < d'.size := by rw [hp1, ← hul]; simpa using hj
    have := hs i j (Nat.zero_le _) hij (by omega)
    simp only [Go.Proofs.ltOf, decide_eq_false_iff_not, cf] at this
    have a1 := hui i hi2
    have a2 := hui j hj2
    rw [List.getElem?_eq_some_iff] at a1 a2
    obtain ⟨_, a1⟩ := a1
    obtain ⟨_, a2⟩ := a2
    simp only [List.getElem_map, a1, a2]
    exact this
  · intro q hq hS
    exact sw_other enc k w b n d' os q (fun e => hS (e ▸ sep1.1 b hb)) hq
  · obtain ⟨cur', hcur, hcs'⟩ := sw_blk enc k w b n d' os hheap
    refine ⟨_, _, S1, S2, rfl, sep1, ?_, _, _, S3, S4, rfl, sep2, trivial, rfl⟩
    simp only [DR]
    rw [RV_ow]
    have hl2 : ((us.map Elt.x).map fun x => PV.ag (c x)).length = d.size := by rw [List.length_map, List.length_map, hul]
    refine .inr ⟨b, cap, cur', ty, by rw [hl2], by rw [hl2, ← hlen]; exact hcap, hb, hcur, by rw [hcs']; exact hcs, ?_⟩
    have hH' : HoldsK enc k (sortWorldK enc k w b 0 n d' os) b 0 d' := by
      unfold sortWorldK
      refine holdsK_grow enc k _ os b 0 d' ?_ ?_
      · simp [putRowK, putRow, mapBlock, Sort.ahead]; exact hbl
      · exact holdsK_putRowK enc k _ b 0 d d' (holdsK_ahead enc k w n b 0 d hH) hp1
    refine RE_of_elts c us 0 _ (fun t ht => ?_) (hper.symm.pairwise e3 (fun h q h1 h2 => h q h2 h1)) ?_
    · obtain ⟨a1, a2, a3⟩ := e2 t (hper.mem_iff.1 ht)
      exact ⟨RVs_congr (fun q hq => sw_other enc k w b n d' os q (hZb q hq) (hZlt q hq)) _ _ _ _ (fun q hq => sw_other enc k w b n d' os q (a3 q hq).2 (hS1lt q (a3 q hq).1)) (fun _ h => h) a1, a2, a3⟩
    · intro i t hi j v hj
      have hi2 : i < d'.size := by
        rw [hp1, ← hul]
        exact (List.getElem?_eq_some_iff.1 hi).1
      have h1 := hui i hi2
      rw [hi, Option.some.injEq] at h1
      have hjk : j < k := by
        have := (List.getElem?_eq_some_iff.1 hj).1
        rw [h1] at this
        rwa [show (d'[i]!).1.vs.length = k from hk _] at this
      have h2 := (HoldsK.cell hH' hi2 hjk).1
      rw [h2, ← hj, h1]
      have hjl : j < (enc d'[i]!).length := by rw [hk]; exact hjk
      rw [getElem!_pos (enc d'[i]!) j hjl]
      exact (List.getElem?_eq_getElem hjl).symm
end Go.Eng

set_option linter.unusedSimpArgs false
set_option linter.unusedVariables false
set_option maxHeartbeats 4000000
set_option maxRecDepth 100000
namespace Go.Proofs.Ytbofobjofngoeaa.EngS
open Go Go.Proofs Go.Eng Go.RowKit
theorem cmpE_lt (a b : Edt) : cmpE a b < 0 ↔ a.tm < b.tm ∨ (a.tm = b.tm ∧ a.ct < b.ct) := by
  simp only [cmpE, cmpI]
  repeat' split
  all_goals omega
theorem cmpE_swo : Go.Sort.SWO (Go.Proofs.ltOf cmpE) := by
  refine ⟨fun x => ?_, fun x y z h1 h2 => ?_, fun x y z h1 h2 => ?_⟩
  · have := cmpE_lt x x
    simp only [Go.Proofs.ltOf, decide_eq_false_iff_not]
    omega
  · simp only [Go.Proofs.ltOf, decide_eq_true_eq] at *
    rw [cmpE_lt] at *
    omega
  · simp only [Go.Proofs.ltOf, decide_eq_false_iff_not] at *
    rw [cmpE_lt] at *
    omega
theorem x_SortFunc_edt (l : List Edt) (h : l.length < 4611686018427387904) :
    ACallX Try.prog 102 [.v (.sl false 5 (edts false l)), .f 76 []] (fun l' : List Edt => l'.Perm l ∧ l'.Pairwise (fun a b => ¬ cmpE b a < 0)) (fun l' => [.v (.sl false 5 (edts false l')), .x]) (fun _ => []) :=
  sort_call Try.sortE 5 Try.isAgg58 Try.sizeOf58 (edtC false) (edtC true) (fun x => by simp [PV.coks, PV.cok, Value.oneCell']) (fun x => by simp [PV.frzs, PV.frz]) cmpE cmpE_swo 76 (fun args w => run_callFunc (by simp) w) l h
    (fun x _ y _ => c_impl_compareEdits x y)
theorem sorted_same {l m : List Edt} (hp : l.Perm m) (h1 : l.Pairwise (fun a b => ¬ cmpE b a < 0)) (h2 : m.Pairwise (fun a b => ¬ cmpE b a < 0)) (hd : ∀ a ∈ m, ∀ b ∈ m, ¬ cmpE a b < 0 → ¬ cmpE b a < 0 → a = b) : l = m := by
  refine List.Perm.eq_of_pairwise (le := fun a b => ¬ cmpE b a < 0) ?_ h1 h2 hp
  intro a b ha hb h3 h4
  exact hd a (hp.mem_iff.1 ha) b hb h4 h3
end Go.Proofs.Ytbofobjofngoeaa.EngS


set_option linter.unusedSimpArgs false
set_option linter.unusedVariables false
set_option maxHeartbeats 4000000
set_option maxRecDepth 100000
namespace Go.Proofs.Ytbofobjofngoeaa.EngS
open Go Go.Proofs Go.Eng Go.RowKit
def befE (e a : Edt) : Bool := decide (a.tm < e.tm ∨ (a.tm = e.tm ∧ a.ct < e.ct))
theorem befE_cmp (e a : Edt) : befE e a = decide (cmpE a e < 0) := by
  rw [befE, decide_eq_decide, cmpE_lt]
def putL (l : List Edt) (e : Edt) : List Edt := l.takeWhile (befE e) ++ e :: l.dropWhile (befE e)
theorem putL_at {l : List Edt} {e : Edt} {i : Nat} (hi : i ≤ l.length) (hb : ∀ j (hj : j < l.length), j < i → befE e l[j] = true) (hs : ∀ (h : i < l.length), befE e l[i] = false) : putL l e = l.take i ++ e :: l.drop i := by
  have h1 : l.takeWhile (befE e) = l.take i ∧ l.dropWhile (befE e) = l.drop i := by
    induction l generalizing i with
    | nil => simp
    | cons a r ih =>
      cases i with
      | zero => have := hs (by simp); simp at this; simp [this]
      | succ i =>
        have h0 := hb 0 (by simp) (by simp)
        simp at h0
        have := ih (i := i) (by simpa using hi) (fun j hj h => by have := hb (j + 1) (by simpa using hj) (by omega); simpa using this) (fun h => by have := hs (by simpa using h); simpa using this)
        simp [h0, this.1, this.2]
  rw [putL, h1.1, h1.2]
theorem putL_len (l : List Edt) (e : Edt) : (putL l e).length = l.length + 1 := by
  have := congrArg List.length (List.takeWhile_append_dropWhile (p := befE e) (l := l))
  simp only [List.length_append] at this
  simp [putL]; omega
theorem putL_perm (l : List Edt) (e : Edt) : (putL l e).Perm (e :: l) := by
  rw [putL]
  refine List.perm_middle.trans (.cons _ ?_)
  rw [List.takeWhile_append_dropWhile]
theorem second_sn {l : List Edt} {e : Edt} {i : Nat} (hi : i ≤ l.length) (h : l.length ≤ 100) (hb : ∀ j (hj : j < l.length), j < i → befE e l[j] = true) (hs : ∀ (h : i < l.length), befE e l[i] = false) :
    ∃ sn : Nat → List Edt, Hd (sn i = l.take i ++ [e]) ∧ Hd (∀ j, i ≤ j → (hj : j < l.length) → sn (j + 1) = sn j ++ [l[j]]) ∧ Hd (∀ j, i ≤ j → (sn j).length ≤ 101) ∧ Hd (sn l.length = putL l e) := by
  refine ⟨fun j => l.take i ++ e :: (l.take j).drop i, ?_, fun j hij hj => ?_, fun j hij => ?_, ?_⟩
  · simp [Hd]
  · simp only [List.take_succ_eq_append_getElem hj]
    rw [List.drop_append_of_le_length (by simp; omega)]
    simp
  · simp; omega
  · show l.take i ++ e :: (l.take l.length).drop i = putL l e
    rw [putL_at hi hb hs, List.take_length]
theorem c_spec_l22Put (l : List Edt) (e : Edt) (h : l.length ≤ 100) (hl : ∀ x ∈ l, x.ck.length ≤ 1048576) (he : e.ck.length ≤ 1048576) : ACall Try.prog 100 [.v (.sl true 5 (edts true l)), edtD e] [.x, .x] [.v (.sl false 5 (edts false (putL l e)))] := by
  have hl' : Hd _ := hl
  have ce := c_spec_l22Copy e he
  obtain ⟨T, C, K, I, X⟩ := e
  clear hl
  obtain ⟨R, hR⟩ : ∃ R, Hd (putL l ⟨T, C, K, I, X⟩ = R) := ⟨_, rfl⟩
  rw [hR.out]
  refine ACall.of (N := 72) tok Try.func100 rfl rfl rfl (by simp) ?_
  repeat' (first | with_reducible refine OutOK.done ?_ | refine thenQ_n ?_ | refine thenQ_r ?_ | refine thenQ_e ?_ | refine AW.seq ?_ | refine AW.dreg tok mixed [11, 20, 29]  [(0, false), (1, false), (2, false), (3, false), (4, false), (5, false), (6, false), (7, false), (8, false), (10, false), (9, false), (11, true), (12, false), (13, false), (14, false), (15, false), (16, false), (17, false), (19, false), (18, false), (20, true), (21, false), (22, false), (23, false), (24, false), (25, false), (26, false), (28, false), (27, false), (29, true), (30, false), (31, false), (32, false), (33, false)] (by decide +kernel) rfl (by simp [*]; rfl) ?_ | refine AW.reg tok (by simp [*]; rfl) ?_ | refine AW.ifB (by simp [*]; rfl) ?_ | refine IfG.t ?_ | refine IfG.f ?_ | ((first | refine IfG.p (fun hg => ?_) (fun hg => ?_) | refine IfG.n (fun hg => ?_) (fun hg => ?_) | refine OutOK.gateP (fun hg => ?_) (fun hg => ?_) | refine OutOK.gateN (fun hg => ?_) (fun hg => ?_) | refine IfG.g (fun hg => ?_) (fun hg => ?_) | refine OutOK.gate (fun hg => ?_) (fun hg => ?_)) <;> (try (have hg' := hg; simp at hg'))) | refine OutOK.run (by simp [*]; rfl) ?_ | refine AW.ret ?_ | refine AW.skip ?_ | refine AW.exit ?_ | refine fin_r ?_ | refine fin_n ?_ | refine AW.block ?_ | refine blockQ_n ?_ | refine blockQ_r ?_ | refine blockQ_e ?_ | refine blockQ_o rfl ?_)
  refine AW.loopS (α := Nat) (fun i => i ≤ l.length ∧ Hd (∀ j (hj : j < l.length), j < i → befE ⟨T, C, K, I, X⟩ l[j] = true)) (fun i => [(0, .c (.sl true 5 (edts true l))), (3, .pt 3000 [] 0), (5, .rf 51000 []), (6, .c (.sc (.int .i64 (i : Int))))])
    (fun i => [(51000, .sv (.sl false 5 (edts false (l.take i)))), (3000, .bx [.sc (.int .i64 T), .sc (.int .i64 C), .sl true 1 (ints K), .sc (.string I), .sc (.string X)])]) (fun i => l.length - i) 0 ⟨Nat.zero_le _, fun j hj h0 => by omega⟩ [(7000, 51000)] (by simp) ⟨by simp, by simp, by simp⟩ ?_
  rintro i ⟨hi, hb⟩
  have htl : (l.take i).length ≤ 100 := Nat.le_trans (List.length_take_le i l) (by omega)
  rcases Nat.lt_or_ge i l.length with hil | hil
  · have e1 : wrap64 ((i : Int) + 1) = ((i + 1 : Nat) : Int) := by rw [w64 (by omega) (by omega)]; omega
    have cy := c_spec_l22Copy l[i] (hl'.out _ (List.getElem_mem hil))
    have hts : Hd (l.take (i + 1) = l.take i ++ [l[i]]) := List.take_succ_eq_append_getElem hil
    obtain ⟨tm, ct2, ck, it, tx, hei⟩ : ∃ tm ct ck it tx, l[i] = ⟨tm, ct, ck, it, tx⟩ := ⟨_, _, _, _, _, rfl⟩
    have hei' : Hd (l[i] = ⟨tm, ct2, ck, it, tx⟩) := hei
    rw [hei] at cy hts
    by_cases hB : tm < T ∨ (tm = T ∧ ct2 < C)
    · have hB2 : Hd (∀ j (hj : j < l.length), j < i + 1 → befE ⟨T, C, K, I, X⟩ l[j] = true) := by
        intro j hj h2
        rcases Nat.lt_succ_iff_lt_or_eq.1 h2 with h3 | rfl
        · exact hb.out j hj h3
        · rw [hei'.out]; simpa [befE] using hB
      generalize l.take i = s1 at *
      have b1 : (s1.length + 1) * 72 ≤ 140737488355328 := by ((try clear e1); (try clear e3); omega)
      have b2 : s1.length + 1 ≤ 4611686018427387904 := by ((try clear e1); (try clear e3); omega)
      clear ce
      rcases Int.lt_or_le tm T with h1 | h1
      · clear hB
        repeat' (first | with_reducible refine OutOK.done ?_ | refine thenQ_n ?_ | refine thenQ_r ?_ | refine thenQ_e ?_ | refine AW.seq ?_ | refine AW.dreg tok mixed [11, 20, 29]  [(0, false), (1, false), (2, false), (3, false), (4, false), (5, false), (6, false), (7, false), (8, false), (10, false), (9, false), (11, true), (12, false), (13, false), (14, false), (15, false), (16, false), (17, false), (19, false), (18, false), (20, true), (21, false), (22, false), (23, false), (24, false), (25, false), (26, false), (28, false), (27, false), (29, true), (30, false), (31, false), (32, false), (33, false)] (by decide +kernel) rfl (by simp [*]; rfl) ?_ | refine AW.reg tok (by simp [*]; rfl) ?_ | refine AW.ifB (by simp [*]; rfl) ?_ | refine IfG.t ?_ | refine IfG.f ?_ | ((first | refine IfG.p (fun hg => ?_) (fun hg => ?_) | refine IfG.n (fun hg => ?_) (fun hg => ?_) | refine OutOK.gateP (fun hg => ?_) (fun hg => ?_) | refine OutOK.gateN (fun hg => ?_) (fun hg => ?_) | refine IfG.g (fun hg => ?_) (fun hg => ?_) | refine OutOK.gate (fun hg => ?_) (fun hg => ?_)) <;> (try (have hg' := hg; simp at hg'))) | (refine OutOK.callF [] (by simp [*]; rfl) (by simp [*]; rfl) (by simp [*]; rfl) hb91 (by apply cy <;> first | assumption | exact Hd.out (by assumption) | ((try clear e1); (try clear e3); omega)) ⟨by simp [*], by simp [*], by simp [*], by simp [*], by simp [*]⟩ (by simp [*]) (by simp [*]; rfl) ?_) | refine OutOK.run (by simp [*]; rfl) ?_ | refine AW.ret ?_ | refine AW.skip ?_ | refine AW.exit ?_ | refine fin_r ?_ | refine fin_n ?_ | refine AW.block ?_ | refine blockQ_n ?_ | refine blockQ_r ?_ | refine blockQ_e ?_ | refine blockQ_o rfl ?_)
        all_goals exact ⟨i + 1, ⟨hil, hB2⟩, ⟨[], by simp, by simp, by simp [hts.out], by simp⟩, by ((try clear e1); (try clear e3); omega)⟩
      · obtain ⟨h2, h3⟩ : tm = T ∧ ct2 < C := hB.resolve_left (by omega)
        subst h2
        clear hB h1
        have h4 : ¬ tm < tm := by omega
        repeat' (first | with_reducible refine OutOK.done ?_ | refine thenQ_n ?_ | refine thenQ_r ?_ | refine thenQ_e ?_ | refine AW.seq ?_ | refine AW.dreg tok mixed [11, 20, 29]  [(0, false), (1, false), (2, false), (3, false), (4, false), (5, false), (6, false), (7, false), (8, false), (10, false), (9, false), (11, true), (12, false), (13, false), (14, false), (15, false), (16, false), (17, false), (19, false), (18, false), (20, true), (21, false), (22, false), (23, false), (24, false), (25, false), (26, false), (28, false), (27, false), (29, true), (30, false), (31, false), (32, false), (33, false)] (by decide +kernel) rfl (by simp [*]; rfl) ?_ | refine AW.reg tok (by simp [*]; rfl) ?_ | refine AW.ifB (by simp [*]; rfl) ?_ | refine IfG.t ?_ | refine IfG.f ?_ | ((first | refine IfG.p (fun hg => ?_) (fun hg => ?_) | refine IfG.n (fun hg => ?_) (fun hg => ?_) | refine OutOK.gateP (fun hg => ?_) (fun hg => ?_) | refine OutOK.gateN (fun hg => ?_) (fun hg => ?_) | refine IfG.g (fun hg => ?_) (fun hg => ?_) | refine OutOK.gate (fun hg => ?_) (fun hg => ?_)) <;> (try (have hg' := hg; simp at hg'))) | (refine OutOK.callF [] (by simp [*]; rfl) (by simp [*]; rfl) (by simp [*]; rfl) hb91 (by apply cy <;> first | assumption | exact Hd.out (by assumption) | ((try clear e1); (try clear e3); omega)) ⟨by simp [*], by simp [*], by simp [*], by simp [*], by simp [*]⟩ (by simp [*]) (by simp [*]; rfl) ?_) | refine OutOK.run (by simp [*]; rfl) ?_ | refine AW.ret ?_ | refine AW.skip ?_ | refine AW.exit ?_ | refine fin_r ?_ | refine fin_n ?_ | refine AW.block ?_ | refine blockQ_n ?_ | refine blockQ_r ?_ | refine blockQ_e ?_ | refine blockQ_o rfl ?_)
        all_goals exact ⟨i + 1, ⟨hil, hB2⟩, ⟨[], by simp, by simp, by simp [hts.out], by simp⟩, by ((try clear e1); (try clear e3); omega)⟩
    · have HS : ∀ (h : i < l.length), befE ⟨T, C, K, I, X⟩ l[i] = false := fun _ => by rw [hei'.out]; simpa [befE] using hB
      obtain ⟨sn, hs0, hsn, hsl, hse⟩ : ∃ sn : Nat → List Edt, Hd (sn i = l.take i ++ [⟨T, C, K, I, X⟩]) ∧ Hd (∀ j, i ≤ j → (hj : j < l.length) → sn (j + 1) = sn j ++ [l[j]]) ∧ Hd (∀ j, i ≤ j → (sn j).length ≤ 101) ∧ Hd (sn l.length = putL l ⟨T, C, K, I, X⟩) := second_sn hi h hb.out HS
      rw [hR.out] at hse
      clear hR
      clear HS hts cy
      generalize l.take i = s1 at *
      have b3 : (s1.length + 1) * 72 ≤ 140737488355328 := by ((try clear e1); (try clear e3); omega)
      have b4 : s1.length + 1 ≤ 4611686018427387904 := by ((try clear e1); (try clear e3); omega)
      have h1 : ¬ tm < T := fun h => hB (.inl h)
      by_cases h2 : tm = T
      · subst h2
        have h3 : ¬ ct2 < C := fun h => hB (.inr ⟨rfl, h⟩)
        clear hB
        repeat' (first | with_reducible refine OutOK.done ?_ | refine thenQ_n ?_ | refine thenQ_r ?_ | refine thenQ_e ?_ | refine AW.seq ?_ | refine AW.dreg tok mixed [11, 20, 29]  [(0, false), (1, false), (2, false), (3, false), (4, false), (5, false), (6, false), (7, false), (8, false), (10, false), (9, false), (11, true), (12, false), (13, false), (14, false), (15, false), (16, false), (17, false), (19, false), (18, false), (20, true), (21, false), (22, false), (23, false), (24, false), (25, false), (26, false), (28, false), (27, false), (29, true), (30, false), (31, false), (32, false), (33, false)] (by decide +kernel) rfl (by simp [*]; rfl) ?_ | refine AW.reg tok (by simp [*]; rfl) ?_ | refine AW.ifB (by simp [*]; rfl) ?_ | refine IfG.t ?_ | refine IfG.f ?_ | ((first | refine IfG.p (fun hg => ?_) (fun hg => ?_) | refine IfG.n (fun hg => ?_) (fun hg => ?_) | refine OutOK.gateP (fun hg => ?_) (fun hg => ?_) | refine OutOK.gateN (fun hg => ?_) (fun hg => ?_) | refine IfG.g (fun hg => ?_) (fun hg => ?_) | refine OutOK.gate (fun hg => ?_) (fun hg => ?_)) <;> (try (have hg' := hg; simp at hg'))) | (refine OutOK.callF [] (by simp [*]; rfl) (by simp [*]; rfl) (by simp [*]; rfl) hb91 (by apply ce <;> first | assumption | exact Hd.out (by assumption) | ((try clear e1); (try clear e3); omega)) ⟨by simp [*], by simp [*], by simp [*], by simp [*], by simp [*]⟩ (by simp [*]) (by simp [*]; rfl) ?_) | refine OutOK.run (by simp [*]; rfl) ?_ | refine AW.ret ?_ | refine AW.skip ?_ | refine AW.exit ?_ | refine fin_r ?_ | refine fin_n ?_ | refine AW.block ?_ | refine blockQ_n ?_ | refine blockQ_r ?_ | refine blockQ_e ?_ | refine blockQ_o rfl ?_)
        refine AW.loopS (α := Nat) (fun j => i ≤ j ∧ j ≤ l.length) (fun j => [(0, .c (.sl true 5 (edts true l))), (5, .rf 70000 []), (6, .c (.sc (.int .i64 (j : Int))))]) (fun j => [(70000, .sv (.sl false 5 (edts false (sn j))))]) (fun j => l.length - j) i ⟨Nat.le_refl _, hi⟩ [(56000, 70000)] (by simp) ⟨by simp, by simp [hs0.out], by simp⟩ ?_
        rintro j ⟨hij, hj⟩
        clear ce
        rcases Nat.lt_or_ge j l.length with hjl | hjl
        · have e3 : wrap64 ((j : Int) + 1) = ((j + 1 : Nat) : Int) := by rw [w64 (by omega) (by omega)]; omega
          have cy := c_spec_l22Copy l[j] (hl'.out _ (List.getElem_mem hjl))
          have hsj := hsn.out j hij hjl
          have hlj := hsl.out j hij
          generalize sn j = s1 at *
          replace hsj : Hd _ := hsj
          have b1 : (s1.length + 1) * 72 ≤ 140737488355328 := by ((try clear e1); (try clear e3); omega)
          have b2 : s1.length + 1 ≤ 4611686018427387904 := by ((try clear e1); (try clear e3); omega)
          obtain ⟨tm, ct2, ck, it, tx, hej⟩ : ∃ tm ct ck it tx, l[j] = ⟨tm, ct, ck, it, tx⟩ := ⟨_, _, _, _, _, rfl⟩
          rw [hej] at cy hsj
          repeat' (first | with_reducible refine OutOK.done ?_ | refine thenQ_n ?_ | refine thenQ_r ?_ | refine thenQ_e ?_ | refine AW.seq ?_ | refine AW.dreg tok mixed [11, 20, 29]  [(0, false), (1, false), (2, false), (3, false), (4, false), (5, false), (6, false), (7, false), (8, false), (10, false), (9, false), (11, true), (12, false), (13, false), (14, false), (15, false), (16, false), (17, false), (19, false), (18, false), (20, true), (21, false), (22, false), (23, false), (24, false), (25, false), (26, false), (28, false), (27, false), (29, true), (30, false), (31, false), (32, false), (33, false)] (by decide +kernel) rfl (by simp [*]; rfl) ?_ | refine AW.reg tok (by simp [*]; rfl) ?_ | refine AW.ifB (by simp [*]; rfl) ?_ | refine IfG.t ?_ | refine IfG.f ?_ | ((first | refine IfG.p (fun hg => ?_) (fun hg => ?_) | refine IfG.n (fun hg => ?_) (fun hg => ?_) | refine OutOK.gateP (fun hg => ?_) (fun hg => ?_) | refine OutOK.gateN (fun hg => ?_) (fun hg => ?_) | refine IfG.g (fun hg => ?_) (fun hg => ?_) | refine OutOK.gate (fun hg => ?_) (fun hg => ?_)) <;> (try (have hg' := hg; simp at hg'))) | (refine OutOK.callF [] (by simp [*]; rfl) (by simp [*]; rfl) (by simp [*]; rfl) hb91 (by apply cy <;> first | assumption | exact Hd.out (by assumption) | ((try clear e1); (try clear e3); omega)) ⟨by simp [*], by simp [*], by simp [*], by simp [*], by simp [*]⟩ (by simp [*]) (by simp [*]; rfl) ?_) | refine OutOK.run (by simp [*]; rfl) ?_ | refine AW.ret ?_ | refine AW.skip ?_ | refine AW.exit ?_ | refine fin_r ?_ | refine fin_n ?_ | refine AW.block ?_ | refine blockQ_n ?_ | refine blockQ_r ?_ | refine blockQ_e ?_ | refine blockQ_o rfl ?_)
          exact ⟨j + 1, ⟨by clear e3; omega, hjl⟩, ⟨[], by simp, by simp, by simp [hsj.out], by simp⟩, by ((try clear e1); (try clear e3); omega)⟩
        · have hjj : j = l.length := by omega
          subst hjj
          rw [hse.out]
          repeat' (first | with_reducible refine OutOK.done ?_ | refine thenQ_n ?_ | refine thenQ_r ?_ | refine thenQ_e ?_ | refine AW.seq ?_ | refine AW.dreg tok mixed [11, 20, 29]  [(0, false), (1, false), (2, false), (3, false), (4, false), (5, false), (6, false), (7, false), (8, false), (10, false), (9, false), (11, true), (12, false), (13, false), (14, false), (15, false), (16, false), (17, false), (19, false), (18, false), (20, true), (21, false), (22, false), (23, false), (24, false), (25, false), (26, false), (28, false), (27, false), (29, true), (30, false), (31, false), (32, false), (33, false)] (by decide +kernel) rfl (by simp [*]; rfl) ?_ | refine AW.reg tok (by simp [*]; rfl) ?_ | refine AW.ifB (by simp [*]; rfl) ?_ | refine IfG.t ?_ | refine IfG.f ?_ | ((first | refine IfG.p (fun hg => ?_) (fun hg => ?_) | refine IfG.n (fun hg => ?_) (fun hg => ?_) | refine OutOK.gateP (fun hg => ?_) (fun hg => ?_) | refine OutOK.gateN (fun hg => ?_) (fun hg => ?_) | refine IfG.g (fun hg => ?_) (fun hg => ?_) | refine OutOK.gate (fun hg => ?_) (fun hg => ?_)) <;> (try (have hg' := hg; simp at hg'))) | refine OutOK.run (by simp [*]; rfl) ?_ | refine AW.ret ?_ | refine AW.skip ?_ | refine AW.exit ?_ | refine fin_r ?_ | refine fin_n ?_ | refine AW.block ?_ | refine blockQ_n ?_ | refine blockQ_r ?_ | refine blockQ_e ?_ | refine blockQ_o rfl ?_)
          simp [Try.f100]
      · clear hB
        repeat' (first | with_reducible refine OutOK.done ?_ | refine thenQ_n ?_ | refine thenQ_r ?_ | refine thenQ_e ?_ | refine AW.seq ?_ | refine AW.dreg tok mixed [11, 20, 29]  [(0, false), (1, false), (2, false), (3, false), (4, false), (5, false), (6, false), (7, false), (8, false), (10, false), (9, false), (11, true), (12, false), (13, false), (14, false), (15, false), (16, false), (17, false), (19, false), (18, false), (20, true), (21, false), (22, false), (23, false), (24, false), (25, false), (26, false), (28, false), (27, false), (29, true), (30, false), (31, false), (32, false), (33, false)] (by decide +kernel) rfl (by simp [*]; rfl) ?_ | refine AW.reg tok (by simp [*]; rfl) ?_ | refine AW.ifB (by simp [*]; rfl) ?_ | refine IfG.t ?_ | refine IfG.f ?_ | ((first | refine IfG.p (fun hg => ?_) (fun hg => ?_) | refine IfG.n (fun hg => ?_) (fun hg => ?_) | refine OutOK.gateP (fun hg => ?_) (fun hg => ?_) | refine OutOK.gateN (fun hg => ?_) (fun hg => ?_) | refine IfG.g (fun hg => ?_) (fun hg => ?_) | refine OutOK.gate (fun hg => ?_) (fun hg => ?_)) <;> (try (have hg' := hg; simp at hg'))) | (refine OutOK.callF [] (by simp [*]; rfl) (by simp [*]; rfl) (by simp [*]; rfl) hb91 (by apply ce <;> first | assumption | exact Hd.out (by assumption) | ((try clear e1); (try clear e3); omega)) ⟨by simp [*], by simp [*], by simp [*], by simp [*], by simp [*]⟩ (by simp [*]) (by simp [*]; rfl) ?_) | refine OutOK.run (by simp [*]; rfl) ?_ | refine AW.ret ?_ | refine AW.skip ?_ | refine AW.exit ?_ | refine fin_r ?_ | refine fin_n ?_ | refine AW.block ?_ | refine blockQ_n ?_ | refine blockQ_r ?_ | refine blockQ_e ?_ | refine blockQ_o rfl ?_)
        refine AW.loopS (α := Nat) (fun j => i ≤ j ∧ j ≤ l.length) (fun j => [(0, .c (.sl true 5 (edts true l))), (5, .rf 70000 []), (6, .c (.sc (.int .i64 (j : Int))))]) (fun j => [(70000, .sv (.sl false 5 (edts false (sn j))))]) (fun j => l.length - j) i ⟨Nat.le_refl _, hi⟩ [(56000, 70000)] (by simp) ⟨by simp, by simp [hs0.out], by simp⟩ ?_
        rintro j ⟨hij, hj⟩
        clear ce
        rcases Nat.lt_or_ge j l.length with hjl | hjl
        · have e3 : wrap64 ((j : Int) + 1) = ((j + 1 : Nat) : Int) := by rw [w64 (by omega) (by omega)]; omega
          have cy := c_spec_l22Copy l[j] (hl'.out _ (List.getElem_mem hjl))
          have hsj := hsn.out j hij hjl
          have hlj := hsl.out j hij
          generalize sn j = s1 at *
          replace hsj : Hd _ := hsj
          have b1 : (s1.length + 1) * 72 ≤ 140737488355328 := by ((try clear e1); (try clear e3); omega)
          have b2 : s1.length + 1 ≤ 4611686018427387904 := by ((try clear e1); (try clear e3); omega)
          obtain ⟨tm, ct2, ck, it, tx, hej⟩ : ∃ tm ct ck it tx, l[j] = ⟨tm, ct, ck, it, tx⟩ := ⟨_, _, _, _, _, rfl⟩
          rw [hej] at cy hsj
          repeat' (first | with_reducible refine OutOK.done ?_ | refine thenQ_n ?_ | refine thenQ_r ?_ | refine thenQ_e ?_ | refine AW.seq ?_ | refine AW.dreg tok mixed [11, 20, 29]  [(0, false), (1, false), (2, false), (3, false), (4, false), (5, false), (6, false), (7, false), (8, false), (10, false), (9, false), (11, true), (12, false), (13, false), (14, false), (15, false), (16, false), (17, false), (19, false), (18, false), (20, true), (21, false), (22, false), (23, false), (24, false), (25, false), (26, false), (28, false), (27, false), (29, true), (30, false), (31, false), (32, false), (33, false)] (by decide +kernel) rfl (by simp [*]; rfl) ?_ | refine AW.reg tok (by simp [*]; rfl) ?_ | refine AW.ifB (by simp [*]; rfl) ?_ | refine IfG.t ?_ | refine IfG.f ?_ | ((first | refine IfG.p (fun hg => ?_) (fun hg => ?_) | refine IfG.n (fun hg => ?_) (fun hg => ?_) | refine OutOK.gateP (fun hg => ?_) (fun hg => ?_) | refine OutOK.gateN (fun hg => ?_) (fun hg => ?_) | refine IfG.g (fun hg => ?_) (fun hg => ?_) | refine OutOK.gate (fun hg => ?_) (fun hg => ?_)) <;> (try (have hg' := hg; simp at hg'))) | (refine OutOK.callF [] (by simp [*]; rfl) (by simp [*]; rfl) (by simp [*]; rfl) hb91 (by apply cy <;> first | assumption | exact Hd.out (by assumption) | ((try clear e1); (try clear e3); omega)) ⟨by simp [*], by simp [*], by simp [*], by simp [*], by simp [*]⟩ (by simp [*]) (by simp [*]; rfl) ?_) | refine OutOK.run (by simp [*]; rfl) ?_ | refine AW.ret ?_ | refine AW.skip ?_ | refine AW.exit ?_ | refine fin_r ?_ | refine fin_n ?_ | refine AW.block ?_ | refine blockQ_n ?_ | refine blockQ_r ?_ | refine blockQ_e ?_ | refine blockQ_o rfl ?_)
          exact ⟨j + 1, ⟨by clear e3; omega, hjl⟩, ⟨[], by simp, by simp, by simp [hsj.out], by simp⟩, by ((try clear e1); (try clear e3); omega)⟩
        · have hjj : j = l.length := by omega
          subst hjj
          rw [hse.out]
          repeat' (first | with_reducible refine OutOK.done ?_ | refine thenQ_n ?_ | refine thenQ_r ?_ | refine thenQ_e ?_ | refine AW.seq ?_ | refine AW.dreg tok mixed [11, 20, 29]  [(0, false), (1, false), (2, false), (3, false), (4, false), (5, false), (6, false), (7, false), (8, false), (10, false), (9, false), (11, true), (12, false), (13, false), (14, false), (15, false), (16, false), (17, false), (19, false), (18, false), (20, true), (21, false), (22, false), (23, false), (24, false), (25, false), (26, false), (28, false), (27, false), (29, true), (30, false), (31, false), (32, false), (33, false)] (by decide +kernel) rfl (by simp [*]; rfl) ?_ | refine AW.reg tok (by simp [*]; rfl) ?_ | refine AW.ifB (by simp [*]; rfl) ?_ | refine IfG.t ?_ | refine IfG.f ?_ | ((first | refine IfG.p (fun hg => ?_) (fun hg => ?_) | refine IfG.n (fun hg => ?_) (fun hg => ?_) | refine OutOK.gateP (fun hg => ?_) (fun hg => ?_) | refine OutOK.gateN (fun hg => ?_) (fun hg => ?_) | refine IfG.g (fun hg => ?_) (fun hg => ?_) | refine OutOK.gate (fun hg => ?_) (fun hg => ?_)) <;> (try (have hg' := hg; simp at hg'))) | refine OutOK.run (by simp [*]; rfl) ?_ | refine AW.ret ?_ | refine AW.skip ?_ | refine AW.exit ?_ | refine fin_r ?_ | refine fin_n ?_ | refine AW.block ?_ | refine blockQ_n ?_ | refine blockQ_r ?_ | refine blockQ_e ?_ | refine blockQ_o rfl ?_)
          simp [Try.f100]
  · have HS : ∀ (h : i < l.length), befE ⟨T, C, K, I, X⟩ l[i] = false := fun h => by omega
    have hin : ¬ i < l.length := by omega
    obtain ⟨sn, hs0, hsn, hsl, hse⟩ : ∃ sn : Nat → List Edt, Hd (sn i = l.take i ++ [⟨T, C, K, I, X⟩]) ∧ Hd (∀ j, i ≤ j → (hj : j < l.length) → sn (j + 1) = sn j ++ [l[j]]) ∧ Hd (∀ j, i ≤ j → (sn j).length ≤ 101) ∧ Hd (sn l.length = putL l ⟨T, C, K, I, X⟩) := second_sn hi h hb.out HS
    rw [hR.out] at hse
    clear hR
    clear HS
    generalize l.take i = s1 at *
    have b3 : (s1.length + 1) * 72 ≤ 140737488355328 := by ((try clear e1); (try clear e3); omega)
    have b4 : s1.length + 1 ≤ 4611686018427387904 := by ((try clear e1); (try clear e3); omega)
    repeat' (first | with_reducible refine OutOK.done ?_ | refine thenQ_n ?_ | refine thenQ_r ?_ | refine thenQ_e ?_ | refine AW.seq ?_ | refine AW.dreg tok mixed [11, 20, 29]  [(0, false), (1, false), (2, false), (3, false), (4, false), (5, false), (6, false), (7, false), (8, false), (10, false), (9, false), (11, true), (12, false), (13, false), (14, false), (15, false), (16, false), (17, false), (19, false), (18, false), (20, true), (21, false), (22, false), (23, false), (24, false), (25, false), (26, false), (28, false), (27, false), (29, true), (30, false), (31, false), (32, false), (33, false)] (by decide +kernel) rfl (by simp [*]; rfl) ?_ | refine AW.reg tok (by simp [*]; rfl) ?_ | refine AW.ifB (by simp [*]; rfl) ?_ | refine IfG.t ?_ | refine IfG.f ?_ | ((first | refine IfG.p (fun hg => ?_) (fun hg => ?_) | refine IfG.n (fun hg => ?_) (fun hg => ?_) | refine OutOK.gateP (fun hg => ?_) (fun hg => ?_) | refine OutOK.gateN (fun hg => ?_) (fun hg => ?_) | refine IfG.g (fun hg => ?_) (fun hg => ?_) | refine OutOK.gate (fun hg => ?_) (fun hg => ?_)) <;> (try (have hg' := hg; simp at hg'))) | (refine OutOK.callF [] (by simp [*]; rfl) (by simp [*]; rfl) (by simp [*]; rfl) hb91 (by apply ce <;> first | assumption | exact Hd.out (by assumption) | ((try clear e1); (try clear e3); omega)) ⟨by simp [*], by simp [*], by simp [*], by simp [*], by simp [*]⟩ (by simp [*]) (by simp [*]; rfl) ?_) | refine OutOK.run (by simp [*]; rfl) ?_ | refine AW.ret ?_ | refine AW.skip ?_ | refine AW.exit ?_ | refine fin_r ?_ | refine fin_n ?_ | refine AW.block ?_ | refine blockQ_n ?_ | refine blockQ_r ?_ | refine blockQ_e ?_ | refine blockQ_o rfl ?_)
    refine AW.loopS (α := Nat) (fun j => i ≤ j ∧ j ≤ l.length) (fun j => [(0, .c (.sl true 5 (edts true l))), (5, .rf 70000 []), (6, .c (.sc (.int .i64 (j : Int))))]) (fun j => [(70000, .sv (.sl false 5 (edts false (sn j))))]) (fun j => l.length - j) i ⟨Nat.le_refl _, hi⟩ [(56000, 70000)] (by simp) ⟨by simp, by simp [hs0.out], by simp⟩ ?_
    rintro j ⟨hij, hj⟩
    clear ce
    rcases Nat.lt_or_ge j l.length with hjl | hjl
    · have e3 : wrap64 ((j : Int) + 1) = ((j + 1 : Nat) : Int) := by rw [w64 (by omega) (by omega)]; omega
      have cy := c_spec_l22Copy l[j] (hl'.out _ (List.getElem_mem hjl))
      have hsj := hsn.out j hij hjl
      have hlj := hsl.out j hij
      generalize sn j = s1 at *
      replace hsj : Hd _ := hsj
      have b1 : (s1.length + 1) * 72 ≤ 140737488355328 := by ((try clear e1); (try clear e3); omega)
      have b2 : s1.length + 1 ≤ 4611686018427387904 := by ((try clear e1); (try clear e3); omega)
      obtain ⟨tm, ct2, ck, it, tx, hej⟩ : ∃ tm ct ck it tx, l[j] = ⟨tm, ct, ck, it, tx⟩ := ⟨_, _, _, _, _, rfl⟩
      rw [hej] at cy hsj
      repeat' (first | with_reducible refine OutOK.done ?_ | refine thenQ_n ?_ | refine thenQ_r ?_ | refine thenQ_e ?_ | refine AW.seq ?_ | refine AW.dreg tok mixed [11, 20, 29]  [(0, false), (1, false), (2, false), (3, false), (4, false), (5, false), (6, false), (7, false), (8, false), (10, false), (9, false), (11, true), (12, false), (13, false), (14, false), (15, false), (16, false), (17, false), (19, false), (18, false), (20, true), (21, false), (22, false), (23, false), (24, false), (25, false), (26, false), (28, false), (27, false), (29, true), (30, false), (31, false), (32, false), (33, false)] (by decide +kernel) rfl (by simp [*]; rfl) ?_ | refine AW.reg tok (by simp [*]; rfl) ?_ | refine AW.ifB (by simp [*]; rfl) ?_ | refine IfG.t ?_ | refine IfG.f ?_ | ((first | refine IfG.p (fun hg => ?_) (fun hg => ?_) | refine IfG.n (fun hg => ?_) (fun hg => ?_) | refine OutOK.gateP (fun hg => ?_) (fun hg => ?_) | refine OutOK.gateN (fun hg => ?_) (fun hg => ?_) | refine IfG.g (fun hg => ?_) (fun hg => ?_) | refine OutOK.gate (fun hg => ?_) (fun hg => ?_)) <;> (try (have hg' := hg; simp at hg'))) | (refine OutOK.callF [] (by simp [*]; rfl) (by simp [*]; rfl) (by simp [*]; rfl) hb91 (by apply cy <;> first | assumption | exact Hd.out (by assumption) | ((try clear e1); (try clear e3); omega)) ⟨by simp [*], by simp [*], by simp [*], by simp [*], by simp [*]⟩ (by simp [*]) (by simp [*]; rfl) ?_) | refine OutOK.run (by simp [*]; rfl) ?_ | refine AW.ret ?_ | refine AW.skip ?_ | refine AW.exit ?_ | refine fin_r ?_ | refine fin_n ?_ | refine AW.block ?_ | refine blockQ_n ?_ | refine blockQ_r ?_ | refine blockQ_e ?_ | refine blockQ_o rfl ?_)
      exact ⟨j + 1, ⟨by clear e3; omega, hjl⟩, ⟨[], by simp, by simp, by simp [hsj.out], by simp⟩, by ((try clear e1); (try clear e3); omega)⟩
    · have hjj : j = l.length := by omega
      subst hjj
      rw [hse.out]
      repeat' (first | with_reducible refine OutOK.done ?_ | refine thenQ_n ?_ | refine thenQ_r ?_ | refine thenQ_e ?_ | refine AW.seq ?_ | refine AW.dreg tok mixed [11, 20, 29]  [(0, false), (1, false), (2, false), (3, false), (4, false), (5, false), (6, false), (7, false), (8, false), (10, false), (9, false), (11, true), (12, false), (13, false), (14, false), (15, false), (16, false), (17, false), (19, false), (18, false), (20, true), (21, false), (22, false), (23, false), (24, false), (25, false), (26, false), (28, false), (27, false), (29, true), (30, false), (31, false), (32, false), (33, false)] (by decide +kernel) rfl (by simp [*]; rfl) ?_ | refine AW.reg tok (by simp [*]; rfl) ?_ | refine AW.ifB (by simp [*]; rfl) ?_ | refine IfG.t ?_ | refine IfG.f ?_ | ((first | refine IfG.p (fun hg => ?_) (fun hg => ?_) | refine IfG.n (fun hg => ?_) (fun hg => ?_) | refine OutOK.gateP (fun hg => ?_) (fun hg => ?_) | refine OutOK.gateN (fun hg => ?_) (fun hg => ?_) | refine IfG.g (fun hg => ?_) (fun hg => ?_) | refine OutOK.gate (fun hg => ?_) (fun hg => ?_)) <;> (try (have hg' := hg; simp at hg'))) | refine OutOK.run (by simp [*]; rfl) ?_ | refine AW.ret ?_ | refine AW.skip ?_ | refine AW.exit ?_ | refine fin_r ?_ | refine fin_n ?_ | refine AW.block ?_ | refine blockQ_n ?_ | refine blockQ_r ?_ | refine blockQ_e ?_ | refine blockQ_o rfl ?_)
      simp [Try.f100]
end Go.Proofs.Ytbofobjofngoeaa.EngS


set_option linter.unusedSimpArgs false
set_option linter.unusedVariables false
set_option maxHeartbeats 4000000
set_option maxRecDepth 100000
namespace Go.Proofs.Ytbofobjofngoeaa.EngS
open Go Go.Proofs Go.Eng Go.RowKit
theorem c_spec_l1Same (xs ys : List Int) (h : xs.length < 9223372036854775807) : ACall Try.prog 130 [.v (.sl true 1 (ints xs)), .v (.sl true 1 (ints ys))] [.x, .x] [boo (decide (xs = ys))] := by
  refine ACall.of (N := 26) tok Try.func130 rfl rfl rfl (by simp) ?_
  repeat' (first | with_reducible refine OutOK.done ?_ | refine thenQ_n ?_ | refine thenQ_r ?_ | refine thenQ_e ?_ | refine AW.seq ?_ | refine AW.dreg tok mixed [7]  [(0, false), (1, false), (2, false), (4, false), (5, false), (6, false), (3, false), (7, true), (8, false)] (by decide +kernel) rfl (by simp [*]; rfl) ?_ | refine AW.reg tok (by simp [*]; rfl) ?_ | refine AW.ifB (by simp [*]; rfl) ?_ | refine IfG.t ?_ | refine IfG.f ?_ | ((first | refine IfG.p (fun hg => ?_) (fun hg => ?_) | refine IfG.n (fun hg => ?_) (fun hg => ?_) | refine OutOK.gateP (fun hg => ?_) (fun hg => ?_) | refine OutOK.gateN (fun hg => ?_) (fun hg => ?_) | refine IfG.g (fun hg => ?_) (fun hg => ?_) | refine OutOK.gate (fun hg => ?_) (fun hg => ?_)) <;> (try (have hg' := hg; simp at hg'))) | refine OutOK.run (by simp [*]; rfl) ?_ | refine AW.ret ?_ | refine AW.skip ?_ | refine AW.exit ?_ | refine fin_r ?_ | refine fin_n ?_ | refine AW.block ?_ | refine blockQ_n ?_ | refine blockQ_r ?_ | refine blockQ_e ?_ | refine blockQ_o rfl ?_)
  · have : ¬ xs = ys := fun e => by subst e; simp at *
    simp [Try.f130, this]
  refine AW.loopL (α := Nat) (fun i => i ≤ xs.length ∧ ∀ j < i, xs[j]? = ys[j]?) (fun i => [(0, .c (.sl true 1 (ints xs))), (1, .c (.sl true 1 (ints ys))), (4, .c (.sc (.bool false))), (5, .c (.sc (.int .i64 (i : Int))))]) (fun _ => []) (fun i => xs.length - i) 0 ⟨Nat.zero_le _, by simp⟩ ⟨by simp, by simp, by simp⟩ ?_
  rintro i ⟨hi, hs⟩
  have hl : xs.length = ys.length := by omega
  repeat' (first | with_reducible refine OutOK.done ?_ | refine thenQ_n ?_ | refine thenQ_r ?_ | refine thenQ_e ?_ | refine AW.seq ?_ | refine AW.dreg tok mixed [7]  [(0, false), (1, false), (2, false), (4, false), (5, false), (6, false), (3, false), (7, true), (8, false)] (by decide +kernel) rfl (by simp [*]; rfl) ?_ | refine AW.reg tok (by simp [*]; rfl) ?_ | refine AW.ifB (by simp [*]; rfl) ?_ | refine IfG.t ?_ | refine IfG.f ?_ | ((first | refine IfG.p (fun hg => ?_) (fun hg => ?_) | refine IfG.n (fun hg => ?_) (fun hg => ?_) | refine OutOK.gateP (fun hg => ?_) (fun hg => ?_) | refine OutOK.gateN (fun hg => ?_) (fun hg => ?_) | refine IfG.g (fun hg => ?_) (fun hg => ?_) | refine OutOK.gate (fun hg => ?_) (fun hg => ?_)) <;> (try (have hg' := hg; simp at hg'))) | refine OutOK.run (by simp [*]; rfl) ?_ | refine AW.ret ?_ | refine AW.skip ?_ | refine AW.exit ?_ | refine fin_r ?_ | refine fin_n ?_ | refine AW.block ?_ | refine blockQ_n ?_ | refine blockQ_r ?_ | refine blockQ_e ?_ | refine blockQ_o rfl ?_)
  · have : ¬ xs = ys := fun e => by subst e; simp at *
    simp [Try.f130, this]
  · have hi' : i < xs.length := by omega
    have e1 : wrap64 ((i : Int) + 1) = ((i + 1 : Nat) : Int) := by rw [w64 (by omega) (by omega)]; omega
    refine ⟨i + 1, ⟨hi', fun j hj => ?_⟩, ⟨by simp [e1], by simp, by simp⟩, by clear e1; omega⟩
    · rcases Nat.lt_succ_iff_lt_or_eq.1 hj with h1 | h1
      · exact hs j h1
      · subst h1; simp [*]
  · have hi' : i = xs.length := by omega
    have : xs = ys := by
      apply List.ext_getElem? 
      intro j
      by_cases hj : j < xs.length
      · exact hs j (by omega)
      · rw [List.getElem?_eq_none (by omega), List.getElem?_eq_none (by omega)]
    simp [Try.f130, this]
theorem c_slices_Equal_int (xs ys : List Int) (h : xs.length < 9223372036854775807) : ACall Try.prog 131 [.v (.sl true 1 (ints xs)), .v (.sl true 1 (ints ys))] [.x, .x] [boo (decide (xs = ys))] := by
  by_cases hln : xs.length = ys.length
  · have hln2 : ((xs.length : Int) = (ys.length : Int)) = True := by rw [hln]; simp
    replace hln : Hd _ := hln
    refine ACall.of (N := 26) tok Try.func131 rfl rfl rfl (by simp) ?_
    repeat' (first | with_reducible refine OutOK.done ?_ | refine thenQ_n ?_ | refine thenQ_r ?_ | refine thenQ_e ?_ | refine AW.seq ?_ | refine AW.dreg tok mixed [7]  [(0, false), (1, false), (2, false), (4, false), (5, false), (6, false), (3, false), (7, true), (8, false)] (by decide +kernel) rfl (by simp [*]; rfl) ?_ | refine AW.reg tok (by simp [*]; rfl) ?_ | refine AW.ifB (by simp [*]; rfl) ?_ | refine IfG.t ?_ | refine IfG.f ?_ | ((first | refine IfG.p (fun hg => ?_) (fun hg => ?_) | refine IfG.n (fun hg => ?_) (fun hg => ?_) | refine OutOK.gateP (fun hg => ?_) (fun hg => ?_) | refine OutOK.gateN (fun hg => ?_) (fun hg => ?_) | refine IfG.g (fun hg => ?_) (fun hg => ?_) | refine OutOK.gate (fun hg => ?_) (fun hg => ?_)) <;> (try (have hg' := hg; simp at hg'))) | refine OutOK.run (by simp [*]; rfl) ?_ | refine AW.ret ?_ | refine AW.skip ?_ | refine AW.exit ?_ | refine fin_r ?_ | refine fin_n ?_ | refine AW.block ?_ | refine blockQ_n ?_ | refine blockQ_r ?_ | refine blockQ_e ?_ | refine blockQ_o rfl ?_)
    refine AW.loopL (α := Nat) (fun i => i ≤ xs.length ∧ Hd (∀ j < i, xs[j]? = ys[j]?)) (fun i => [(0, .c (.sl true 1 (ints xs))), (1, .c (.sl true 1 (ints ys))), (11, .c (.sl true 1 (ints xs))), (12, .c (.sc (.int .i64 (xs.length : Int)))), (13, .c (.sc (.int .i64 (i : Int))))]) (fun _ => []) (fun i => xs.length - i) 0 ⟨Nat.zero_le _, by simp [Hd]⟩ ⟨by simp, by simp, by simp⟩ ?_
    rintro i ⟨hi, hs⟩
    rcases Nat.lt_or_ge i xs.length with hl | hl
    · have hl2 : i < ys.length := by have := hln.out; omega
      have e1 : wrap64 ((i : Int) + 1) = ((i + 1 : Nat) : Int) := by rw [w64 (by omega) (by omega)]; omega
      by_cases hx : xs[i] = ys[i]
      · have hs2 : Hd (∀ j < i + 1, xs[j]? = ys[j]?) := by
          intro j hj
          rcases Nat.lt_succ_iff_lt_or_eq.1 hj with h1 | rfl
          · exact hs.out j h1
          · rw [List.getElem?_eq_getElem hl, List.getElem?_eq_getElem hl2, hx]
        clear hln hln2
        repeat' (first | with_reducible refine OutOK.done ?_ | refine thenQ_n ?_ | refine thenQ_r ?_ | refine thenQ_e ?_ | refine AW.seq ?_ | refine AW.dreg tok mixed [7]  [(0, false), (1, false), (2, false), (4, false), (5, false), (6, false), (3, false), (7, true), (8, false)] (by decide +kernel) rfl (by simp [*]; rfl) ?_ | refine AW.reg tok (by simp [*]; rfl) ?_ | refine AW.ifB (by simp [*]; rfl) ?_ | refine IfG.t ?_ | refine IfG.f ?_ | ((first | refine IfG.p (fun hg => ?_) (fun hg => ?_) | refine IfG.n (fun hg => ?_) (fun hg => ?_) | refine OutOK.gateP (fun hg => ?_) (fun hg => ?_) | refine OutOK.gateN (fun hg => ?_) (fun hg => ?_) | refine IfG.g (fun hg => ?_) (fun hg => ?_) | refine OutOK.gate (fun hg => ?_) (fun hg => ?_)) <;> (try (have hg' := hg; simp at hg'))) | refine OutOK.run (by simp [*]; rfl) ?_ | refine AW.ret ?_ | refine AW.skip ?_ | refine AW.exit ?_ | refine fin_r ?_ | refine fin_n ?_ | refine AW.block ?_ | refine blockQ_n ?_ | refine blockQ_r ?_ | refine blockQ_e ?_ | refine blockQ_o rfl ?_)
        exact ⟨i + 1, ⟨hl, hs2⟩, ⟨by simp, by simp, by simp⟩, by ((try clear e1); omega)⟩
      · have hne : ¬ xs = ys := fun e => hx (by subst e; rfl)
        clear hln hln2
        repeat' (first | with_reducible refine OutOK.done ?_ | refine thenQ_n ?_ | refine thenQ_r ?_ | refine thenQ_e ?_ | refine AW.seq ?_ | refine AW.dreg tok mixed [7]  [(0, false), (1, false), (2, false), (4, false), (5, false), (6, false), (3, false), (7, true), (8, false)] (by decide +kernel) rfl (by simp [*]; rfl) ?_ | refine AW.reg tok (by simp [*]; rfl) ?_ | refine AW.ifB (by simp [*]; rfl) ?_ | refine IfG.t ?_ | refine IfG.f ?_ | ((first | refine IfG.p (fun hg => ?_) (fun hg => ?_) | refine IfG.n (fun hg => ?_) (fun hg => ?_) | refine OutOK.gateP (fun hg => ?_) (fun hg => ?_) | refine OutOK.gateN (fun hg => ?_) (fun hg => ?_) | refine IfG.g (fun hg => ?_) (fun hg => ?_) | refine OutOK.gate (fun hg => ?_) (fun hg => ?_)) <;> (try (have hg' := hg; simp at hg'))) | refine OutOK.run (by simp [*]; rfl) ?_ | refine AW.ret ?_ | refine AW.skip ?_ | refine AW.exit ?_ | refine fin_r ?_ | refine fin_n ?_ | refine AW.block ?_ | refine blockQ_n ?_ | refine blockQ_r ?_ | refine blockQ_e ?_ | refine blockQ_o rfl ?_)
        simp [Try.f131, hne]
    · have he : Hd (xs = ys) := by
        have hln := hln.out
        apply List.ext_getElem?
        intro j
        by_cases hj : j < xs.length
        · exact hs.out j (by omega)
        · rw [List.getElem?_eq_none (by omega), List.getElem?_eq_none (by omega)]
      have hin : ¬ i < xs.length := by omega
      clear hln hln2
      repeat' (first | with_reducible refine OutOK.done ?_ | refine thenQ_n ?_ | refine thenQ_r ?_ | refine thenQ_e ?_ | refine AW.seq ?_ | refine AW.dreg tok mixed [7]  [(0, false), (1, false), (2, false), (4, false), (5, false), (6, false), (3, false), (7, true), (8, false)] (by decide +kernel) rfl (by simp [*]; rfl) ?_ | refine AW.reg tok (by simp [*]; rfl) ?_ | refine AW.ifB (by simp [*]; rfl) ?_ | refine IfG.t ?_ | refine IfG.f ?_ | ((first | refine IfG.p (fun hg => ?_) (fun hg => ?_) | refine IfG.n (fun hg => ?_) (fun hg => ?_) | refine OutOK.gateP (fun hg => ?_) (fun hg => ?_) | refine OutOK.gateN (fun hg => ?_) (fun hg => ?_) | refine IfG.g (fun hg => ?_) (fun hg => ?_) | refine OutOK.gate (fun hg => ?_) (fun hg => ?_)) <;> (try (have hg' := hg; simp at hg'))) | refine OutOK.run (by simp [*]; rfl) ?_ | refine AW.ret ?_ | refine AW.skip ?_ | refine AW.exit ?_ | refine fin_r ?_ | refine fin_n ?_ | refine AW.block ?_ | refine blockQ_n ?_ | refine blockQ_r ?_ | refine blockQ_e ?_ | refine blockQ_o rfl ?_)
      simp [Try.f131, he.out]
  · have hne : ¬ xs = ys := fun e => hln (by subst e; rfl)
    have hln2 : ¬ (xs.length : Int) = ys.length := by omega
    refine ACall.of (N := 26) tok Try.func131 rfl rfl rfl (by simp) ?_
    repeat' (first | with_reducible refine OutOK.done ?_ | refine thenQ_n ?_ | refine thenQ_r ?_ | refine thenQ_e ?_ | refine AW.seq ?_ | refine AW.dreg tok mixed [7]  [(0, false), (1, false), (2, false), (4, false), (5, false), (6, false), (3, false), (7, true), (8, false)] (by decide +kernel) rfl (by simp [*]; rfl) ?_ | refine AW.reg tok (by simp [*]; rfl) ?_ | refine AW.ifB (by simp [*]; rfl) ?_ | refine IfG.t ?_ | refine IfG.f ?_ | ((first | refine IfG.p (fun hg => ?_) (fun hg => ?_) | refine IfG.n (fun hg => ?_) (fun hg => ?_) | refine OutOK.gateP (fun hg => ?_) (fun hg => ?_) | refine OutOK.gateN (fun hg => ?_) (fun hg => ?_) | refine IfG.g (fun hg => ?_) (fun hg => ?_) | refine OutOK.gate (fun hg => ?_) (fun hg => ?_)) <;> (try (have hg' := hg; simp at hg'))) | refine OutOK.run (by simp [*]; rfl) ?_ | refine AW.ret ?_ | refine AW.skip ?_ | refine AW.exit ?_ | refine fin_r ?_ | refine fin_n ?_ | refine AW.block ?_ | refine blockQ_n ?_ | refine blockQ_r ?_ | refine blockQ_e ?_ | refine blockQ_o rfl ?_)
    simp [Try.f131, hne]
def sameE (a b : Edt) : Bool := decide (a.tm = b.tm) && decide (a.ct = b.ct) && decide (a.ck = b.ck) && decide (a.it.toList = b.it.toList) && decide (a.tx.toList = b.tx.toList)
theorem c_impl_sameEdit (a b : Edt) (h : a.ck.length < 9223372036854775807) : ACall Try.prog 101 [edtD a, edtD b] [.x, .x] [boo (sameE a b)] := by
  have cq := c_slices_Equal_int a.ck b.ck h
  obtain ⟨t1, c1, k1, i1, x1⟩ := a
  obtain ⟨t2, c2, k2, i2, x2⟩ := b
  simp only [sameE] at *
  by_cases h1 : t1 = t2
  · by_cases h2 : c1 = c2
    · by_cases h3 : k1 = k2
      · subst h3
        simp only [decide_true] at cq
        by_cases h4 : i1.toList = i2.toList
        · refine ACall.of (N := 38) tok Try.func101 rfl rfl rfl (by simp) ?_
          repeat' (first | with_reducible refine OutOK.done ?_ | refine thenQ_n ?_ | refine thenQ_r ?_ | refine thenQ_e ?_ | refine AW.seq ?_ | refine AW.reg tok (by simp [*]; rfl) ?_ | refine AW.ifB (by simp [*]; rfl) ?_ | refine IfG.t ?_ | refine IfG.f ?_ | ((first | refine IfG.p (fun hg => ?_) (fun hg => ?_) | refine IfG.n (fun hg => ?_) (fun hg => ?_) | refine OutOK.gateP (fun hg => ?_) (fun hg => ?_) | refine OutOK.gateN (fun hg => ?_) (fun hg => ?_) | refine IfG.g (fun hg => ?_) (fun hg => ?_) | refine OutOK.gate (fun hg => ?_) (fun hg => ?_)) <;> (try (have hg' := hg; simp at hg'))) | (refine OutOK.callF [] (by simp [*]; rfl) (by simp [*]; rfl) (by simp [*]; rfl) hb131 (by apply cq <;> first | assumption | exact Hd.out (by assumption) | omega) ⟨by simp [*], by simp [*], by simp [*], by simp [*], by simp [*]⟩ (by simp [*]) (by simp [*]; rfl) ?_) | refine OutOK.run (by simp [*]; rfl) ?_ | refine AW.ret ?_ | refine AW.skip ?_ | refine AW.exit ?_ | refine fin_r ?_ | refine fin_n ?_ | refine AW.block ?_ | refine blockQ_n ?_ | refine blockQ_r ?_ | refine blockQ_e ?_ | refine blockQ_o rfl ?_)
          simp [Try.f101, *]
        · refine ACall.of (N := 38) tok Try.func101 rfl rfl rfl (by simp) ?_
          repeat' (first | with_reducible refine OutOK.done ?_ | refine thenQ_n ?_ | refine thenQ_r ?_ | refine thenQ_e ?_ | refine AW.seq ?_ | refine AW.reg tok (by simp [*]; rfl) ?_ | refine AW.ifB (by simp [*]; rfl) ?_ | refine IfG.t ?_ | refine IfG.f ?_ | ((first | refine IfG.p (fun hg => ?_) (fun hg => ?_) | refine IfG.n (fun hg => ?_) (fun hg => ?_) | refine OutOK.gateP (fun hg => ?_) (fun hg => ?_) | refine OutOK.gateN (fun hg => ?_) (fun hg => ?_) | refine IfG.g (fun hg => ?_) (fun hg => ?_) | refine OutOK.gate (fun hg => ?_) (fun hg => ?_)) <;> (try (have hg' := hg; simp at hg'))) | (refine OutOK.callF [] (by simp [*]; rfl) (by simp [*]; rfl) (by simp [*]; rfl) hb131 (by apply cq <;> first | assumption | exact Hd.out (by assumption) | omega) ⟨by simp [*], by simp [*], by simp [*], by simp [*], by simp [*]⟩ (by simp [*]) (by simp [*]; rfl) ?_) | refine OutOK.run (by simp [*]; rfl) ?_ | refine AW.ret ?_ | refine AW.skip ?_ | refine AW.exit ?_ | refine fin_r ?_ | refine fin_n ?_ | refine AW.block ?_ | refine blockQ_n ?_ | refine blockQ_r ?_ | refine blockQ_e ?_ | refine blockQ_o rfl ?_)
          simp [Try.f101, *]
      · simp only [h3, decide_false] at cq
        refine ACall.of (N := 38) tok Try.func101 rfl rfl rfl (by simp) ?_
        repeat' (first | with_reducible refine OutOK.done ?_ | refine thenQ_n ?_ | refine thenQ_r ?_ | refine thenQ_e ?_ | refine AW.seq ?_ | refine AW.reg tok (by simp [*]; rfl) ?_ | refine AW.ifB (by simp [*]; rfl) ?_ | refine IfG.t ?_ | refine IfG.f ?_ | ((first | refine IfG.p (fun hg => ?_) (fun hg => ?_) | refine IfG.n (fun hg => ?_) (fun hg => ?_) | refine OutOK.gateP (fun hg => ?_) (fun hg => ?_) | refine OutOK.gateN (fun hg => ?_) (fun hg => ?_) | refine IfG.g (fun hg => ?_) (fun hg => ?_) | refine OutOK.gate (fun hg => ?_) (fun hg => ?_)) <;> (try (have hg' := hg; simp at hg'))) | (refine OutOK.callF [] (by simp [*]; rfl) (by simp [*]; rfl) (by simp [*]; rfl) hb131 (by apply cq <;> first | assumption | exact Hd.out (by assumption) | omega) ⟨by simp [*], by simp [*], by simp [*], by simp [*], by simp [*]⟩ (by simp [*]) (by simp [*]; rfl) ?_) | refine OutOK.run (by simp [*]; rfl) ?_ | refine AW.ret ?_ | refine AW.skip ?_ | refine AW.exit ?_ | refine fin_r ?_ | refine fin_n ?_ | refine AW.block ?_ | refine blockQ_n ?_ | refine blockQ_r ?_ | refine blockQ_e ?_ | refine blockQ_o rfl ?_)
        simp [Try.f101, *]
    · refine ACall.of (N := 38) tok Try.func101 rfl rfl rfl (by simp) ?_
      repeat' (first | with_reducible refine OutOK.done ?_ | refine thenQ_n ?_ | refine thenQ_r ?_ | refine thenQ_e ?_ | refine AW.seq ?_ | refine AW.reg tok (by simp [*]; rfl) ?_ | refine AW.ifB (by simp [*]; rfl) ?_ | refine IfG.t ?_ | refine IfG.f ?_ | ((first | refine IfG.p (fun hg => ?_) (fun hg => ?_) | refine IfG.n (fun hg => ?_) (fun hg => ?_) | refine OutOK.gateP (fun hg => ?_) (fun hg => ?_) | refine OutOK.gateN (fun hg => ?_) (fun hg => ?_) | refine IfG.g (fun hg => ?_) (fun hg => ?_) | refine OutOK.gate (fun hg => ?_) (fun hg => ?_)) <;> (try (have hg' := hg; simp at hg'))) | (refine OutOK.callF [] (by simp [*]; rfl) (by simp [*]; rfl) (by simp [*]; rfl) hb131 (by apply cq <;> first | assumption | exact Hd.out (by assumption) | omega) ⟨by simp [*], by simp [*], by simp [*], by simp [*], by simp [*]⟩ (by simp [*]) (by simp [*]; rfl) ?_) | refine OutOK.run (by simp [*]; rfl) ?_ | refine AW.ret ?_ | refine AW.skip ?_ | refine AW.exit ?_ | refine fin_r ?_ | refine fin_n ?_ | refine AW.block ?_ | refine blockQ_n ?_ | refine blockQ_r ?_ | refine blockQ_e ?_ | refine blockQ_o rfl ?_)
      simp [Try.f101, *]
  · refine ACall.of (N := 38) tok Try.func101 rfl rfl rfl (by simp) ?_
    repeat' (first | with_reducible refine OutOK.done ?_ | refine thenQ_n ?_ | refine thenQ_r ?_ | refine thenQ_e ?_ | refine AW.seq ?_ | refine AW.reg tok (by simp [*]; rfl) ?_ | refine AW.ifB (by simp [*]; rfl) ?_ | refine IfG.t ?_ | refine IfG.f ?_ | ((first | refine IfG.p (fun hg => ?_) (fun hg => ?_) | refine IfG.n (fun hg => ?_) (fun hg => ?_) | refine OutOK.gateP (fun hg => ?_) (fun hg => ?_) | refine OutOK.gateN (fun hg => ?_) (fun hg => ?_) | refine IfG.g (fun hg => ?_) (fun hg => ?_) | refine OutOK.gate (fun hg => ?_) (fun hg => ?_)) <;> (try (have hg' := hg; simp at hg'))) | (refine OutOK.callF [] (by simp [*]; rfl) (by simp [*]; rfl) (by simp [*]; rfl) hb131 (by apply cq <;> first | assumption | exact Hd.out (by assumption) | omega) ⟨by simp [*], by simp [*], by simp [*], by simp [*], by simp [*]⟩ (by simp [*]) (by simp [*]; rfl) ?_) | refine OutOK.run (by simp [*]; rfl) ?_ | refine AW.ret ?_ | refine AW.skip ?_ | refine AW.exit ?_ | refine fin_r ?_ | refine fin_n ?_ | refine AW.block ?_ | refine blockQ_n ?_ | refine blockQ_r ?_ | refine blockQ_e ?_ | refine blockQ_o rfl ?_)
    simp [Try.f101, *]
theorem c_spec_l22Same (a b : Edt) (h : a.ck.length < 9223372036854775807) : ACall Try.prog 99 [edtD a, edtD b] [.x, .x] [boo (sameE a b)] := by
  have cq := c_spec_l1Same a.ck b.ck h
  obtain ⟨t1, c1, k1, i1, x1⟩ := a
  obtain ⟨t2, c2, k2, i2, x2⟩ := b
  simp only [sameE] at *
  by_cases h1 : t1 = t2
  · by_cases h2 : c1 = c2
    · by_cases h3 : k1 = k2
      · subst h3
        simp only [decide_true] at cq
        by_cases h4 : i1.toList = i2.toList
        · refine ACall.of (N := 38) tok Try.func99 rfl rfl rfl (by simp) ?_
          repeat' (first | with_reducible refine OutOK.done ?_ | refine thenQ_n ?_ | refine thenQ_r ?_ | refine thenQ_e ?_ | refine AW.seq ?_ | refine AW.reg tok (by simp [*]; rfl) ?_ | refine AW.ifB (by simp [*]; rfl) ?_ | refine IfG.t ?_ | refine IfG.f ?_ | ((first | refine IfG.p (fun hg => ?_) (fun hg => ?_) | refine IfG.n (fun hg => ?_) (fun hg => ?_) | refine OutOK.gateP (fun hg => ?_) (fun hg => ?_) | refine OutOK.gateN (fun hg => ?_) (fun hg => ?_) | refine IfG.g (fun hg => ?_) (fun hg => ?_) | refine OutOK.gate (fun hg => ?_) (fun hg => ?_)) <;> (try (have hg' := hg; simp at hg'))) | (refine OutOK.callF [] (by simp [*]; rfl) (by simp [*]; rfl) (by simp [*]; rfl) hb130 (by apply cq <;> first | assumption | exact Hd.out (by assumption) | omega) ⟨by simp [*], by simp [*], by simp [*], by simp [*], by simp [*]⟩ (by simp [*]) (by simp [*]; rfl) ?_) | refine OutOK.run (by simp [*]; rfl) ?_ | refine AW.ret ?_ | refine AW.skip ?_ | refine AW.exit ?_ | refine fin_r ?_ | refine fin_n ?_ | refine AW.block ?_ | refine blockQ_n ?_ | refine blockQ_r ?_ | refine blockQ_e ?_ | refine blockQ_o rfl ?_)
          simp [Try.f99, *]
        · refine ACall.of (N := 38) tok Try.func99 rfl rfl rfl (by simp) ?_
          repeat' (first | with_reducible refine OutOK.done ?_ | refine thenQ_n ?_ | refine thenQ_r ?_ | refine thenQ_e ?_ | refine AW.seq ?_ | refine AW.reg tok (by simp [*]; rfl) ?_ | refine AW.ifB (by simp [*]; rfl) ?_ | refine IfG.t ?_ | refine IfG.f ?_ | ((first | refine IfG.p (fun hg => ?_) (fun hg => ?_) | refine IfG.n (fun hg => ?_) (fun hg => ?_) | refine OutOK.gateP (fun hg => ?_) (fun hg => ?_) | refine OutOK.gateN (fun hg => ?_) (fun hg => ?_) | refine IfG.g (fun hg => ?_) (fun hg => ?_) | refine OutOK.gate (fun hg => ?_) (fun hg => ?_)) <;> (try (have hg' := hg; simp at hg'))) | (refine OutOK.callF [] (by simp [*]; rfl) (by simp [*]; rfl) (by simp [*]; rfl) hb130 (by apply cq <;> first | assumption | exact Hd.out (by assumption) | omega) ⟨by simp [*], by simp [*], by simp [*], by simp [*], by simp [*]⟩ (by simp [*]) (by simp [*]; rfl) ?_) | refine OutOK.run (by simp [*]; rfl) ?_ | refine AW.ret ?_ | refine AW.skip ?_ | refine AW.exit ?_ | refine fin_r ?_ | refine fin_n ?_ | refine AW.block ?_ | refine blockQ_n ?_ | refine blockQ_r ?_ | refine blockQ_e ?_ | refine blockQ_o rfl ?_)
          simp [Try.f99, *]
      · simp only [h3, decide_false] at cq
        refine ACall.of (N := 38) tok Try.func99 rfl rfl rfl (by simp) ?_
        repeat' (first | with_reducible refine OutOK.done ?_ | refine thenQ_n ?_ | refine thenQ_r ?_ | refine thenQ_e ?_ | refine AW.seq ?_ | refine AW.reg tok (by simp [*]; rfl) ?_ | refine AW.ifB (by simp [*]; rfl) ?_ | refine IfG.t ?_ | refine IfG.f ?_ | ((first | refine IfG.p (fun hg => ?_) (fun hg => ?_) | refine IfG.n (fun hg => ?_) (fun hg => ?_) | refine OutOK.gateP (fun hg => ?_) (fun hg => ?_) | refine OutOK.gateN (fun hg => ?_) (fun hg => ?_) | refine IfG.g (fun hg => ?_) (fun hg => ?_) | refine OutOK.gate (fun hg => ?_) (fun hg => ?_)) <;> (try (have hg' := hg; simp at hg'))) | (refine OutOK.callF [] (by simp [*]; rfl) (by simp [*]; rfl) (by simp [*]; rfl) hb130 (by apply cq <;> first | assumption | exact Hd.out (by assumption) | omega) ⟨by simp [*], by simp [*], by simp [*], by simp [*], by simp [*]⟩ (by simp [*]) (by simp [*]; rfl) ?_) | refine OutOK.run (by simp [*]; rfl) ?_ | refine AW.ret ?_ | refine AW.skip ?_ | refine AW.exit ?_ | refine fin_r ?_ | refine fin_n ?_ | refine AW.block ?_ | refine blockQ_n ?_ | refine blockQ_r ?_ | refine blockQ_e ?_ | refine blockQ_o rfl ?_)
        simp [Try.f99, *]
    · refine ACall.of (N := 38) tok Try.func99 rfl rfl rfl (by simp) ?_
      repeat' (first | with_reducible refine OutOK.done ?_ | refine thenQ_n ?_ | refine thenQ_r ?_ | refine thenQ_e ?_ | refine AW.seq ?_ | refine AW.reg tok (by simp [*]; rfl) ?_ | refine AW.ifB (by simp [*]; rfl) ?_ | refine IfG.t ?_ | refine IfG.f ?_ | ((first | refine IfG.p (fun hg => ?_) (fun hg => ?_) | refine IfG.n (fun hg => ?_) (fun hg => ?_) | refine OutOK.gateP (fun hg => ?_) (fun hg => ?_) | refine OutOK.gateN (fun hg => ?_) (fun hg => ?_) | refine IfG.g (fun hg => ?_) (fun hg => ?_) | refine OutOK.gate (fun hg => ?_) (fun hg => ?_)) <;> (try (have hg' := hg; simp at hg'))) | (refine OutOK.callF [] (by simp [*]; rfl) (by simp [*]; rfl) (by simp [*]; rfl) hb130 (by apply cq <;> first | assumption | exact Hd.out (by assumption) | omega) ⟨by simp [*], by simp [*], by simp [*], by simp [*], by simp [*]⟩ (by simp [*]) (by simp [*]; rfl) ?_) | refine OutOK.run (by simp [*]; rfl) ?_ | refine AW.ret ?_ | refine AW.skip ?_ | refine AW.exit ?_ | refine fin_r ?_ | refine fin_n ?_ | refine AW.block ?_ | refine blockQ_n ?_ | refine blockQ_r ?_ | refine blockQ_e ?_ | refine blockQ_o rfl ?_)
      simp [Try.f99, *]
  · refine ACall.of (N := 38) tok Try.func99 rfl rfl rfl (by simp) ?_
    repeat' (first | with_reducible refine OutOK.done ?_ | refine thenQ_n ?_ | refine thenQ_r ?_ | refine thenQ_e ?_ | refine AW.seq ?_ | refine AW.reg tok (by simp [*]; rfl) ?_ | refine AW.ifB (by simp [*]; rfl) ?_ | refine IfG.t ?_ | refine IfG.f ?_ | ((first | refine IfG.p (fun hg => ?_) (fun hg => ?_) | refine IfG.n (fun hg => ?_) (fun hg => ?_) | refine OutOK.gateP (fun hg => ?_) (fun hg => ?_) | refine OutOK.gateN (fun hg => ?_) (fun hg => ?_) | refine IfG.g (fun hg => ?_) (fun hg => ?_) | refine OutOK.gate (fun hg => ?_) (fun hg => ?_)) <;> (try (have hg' := hg; simp at hg'))) | (refine OutOK.callF [] (by simp [*]; rfl) (by simp [*]; rfl) (by simp [*]; rfl) hb130 (by apply cq <;> first | assumption | exact Hd.out (by assumption) | omega) ⟨by simp [*], by simp [*], by simp [*], by simp [*], by simp [*]⟩ (by simp [*]) (by simp [*]; rfl) ?_) | refine OutOK.run (by simp [*]; rfl) ?_ | refine AW.ret ?_ | refine AW.skip ?_ | refine AW.exit ?_ | refine fin_r ?_ | refine fin_n ?_ | refine AW.block ?_ | refine blockQ_n ?_ | refine blockQ_r ?_ | refine blockQ_e ?_ | refine blockQ_o rfl ?_)
    simp [Try.f99, *]
end Go.Proofs.Ytbofobjofngoeaa.EngS


set_option linter.unusedSimpArgs false
set_option linter.unusedVariables false
set_option maxHeartbeats 4000000
set_option maxRecDepth 100000
namespace Go.Proofs.Ytbofobjofngoeaa.EngS
open Go Go.Proofs Go.Eng Go.RowKit
def joinL (a : List Edt) : List Edt → List Edt → Option (List Edt)
  | out, [] => some out
  | out, x :: r => if fndE a x.tm x.ct < 0 then joinL a (putL out x) r else if sameE (a[(fndE a x.tm x.ct).toNat]?.getD default) x = true then joinL a out r else none
theorem joinL_put {a out b : List Edt} {i : Nat} (h : i < b.length) (hf : fndE a b[i].tm b[i].ct < 0) : joinL a out (b.drop i) = joinL a (putL out b[i]) (b.drop (i + 1)) := by
  rw [List.drop_eq_getElem_cons h, joinL, if_pos hf]
theorem joinL_same {a out b : List Edt} {i k : Nat} (h : i < b.length) (hf : fndE a b[i].tm b[i].ct = (k : Int)) (hk : k < a.length) (hs : sameE a[k] b[i] = true) : joinL a out (b.drop i) = joinL a out (b.drop (i + 1)) := by
  rw [List.drop_eq_getElem_cons h, joinL, if_neg (by omega), hf]
  simp [hk, hs]
theorem joinL_no {a out b : List Edt} {i k : Nat} (h : i < b.length) (hf : fndE a b[i].tm b[i].ct = (k : Int)) (hk : k < a.length) (hs : sameE a[k] b[i] = false) : joinL a out (b.drop i) = none := by
  rw [List.drop_eq_getElem_cons h, joinL, if_neg (by omega), hf]
  simp [hk, hs]
noncomputable def mrgO (a b : List Edt) (n : Int) : Option (List Edt) := if (hist a n && hist b n) = true then joinL a a b else none
noncomputable def mrgB (a b : List Edt) (n : Int) : Bool := match mrgO a b n with
  | some m => hist m n
  | none => false
noncomputable def mrgR (a b : List Edt) (n : Int) : List Edt := if mrgB a b n = true then (mrgO a b n).getD [] else []
theorem mrg_none {a b : List Edt} {n : Int} (h : mrgO a b n = none) : mrgB a b n = false ∧ mrgR a b n = [] := by
  have : mrgB a b n = false := by simp [mrgB, h]
  exact ⟨this, by simp [mrgR, this]⟩
theorem mrg_some {a b m : List Edt} {n : Int} (h : mrgO a b n = some m) : mrgB a b n = hist m n ∧ mrgR a b n = if hist m n = true then m else [] := by
  have : mrgB a b n = hist m n := by simp [mrgB, h]
  refine ⟨this, ?_⟩
  rw [mrgR, this, h]
  simp
theorem putL_mem {l : List Edt} {e x : Edt} : x ∈ putL l e ↔ x = e ∨ x ∈ l := by
  rw [(putL_perm l e).mem_iff]; simp
theorem c_spec_MergeHistories (a b : List Edt) (n : Int) (h : a.length ≤ 1048576) (hb : ∀ e ∈ a, EdtB e) (h' : b.length ≤ 1048576) (hb' : ∀ e ∈ b, EdtB e) :
    ACall Try.prog 49 [.v (.sl true 5 (edts true a)), .v (.sl true 5 (edts true b)), int n] [.x, .x, .x] [.v (.sl false 5 (edts false (mrgR a b n))), boo (mrgB a b n)] := by
  have ca := c_spec_l22Good a n (by omega) (fun e he => (hb e he).w)
  have cb := c_spec_l22Good b n (by omega) (fun e he => (hb' e he).w)
  by_cases hH : (hist a n && hist b n) = true
  case neg =>
    have hm : mrgO a b n = none := by simp only [mrgO, if_neg hH]
    obtain ⟨m1, m2⟩ := mrg_none hm
    rw [m1, m2]
    cases hA : hist a n
    · rw [hA] at ca
      clear hb hb' hm m1 m2 hH hA
      generalize hist b n = B at *
      refine ACall.of (N := 85) tok Try.func49 rfl rfl rfl (by simp) ?_
      repeat' (first | with_reducible refine OutOK.done ?_ | refine thenQ_n ?_ | refine thenQ_r ?_ | refine thenQ_e ?_ | refine AW.seq ?_ | refine AW.dreg tok mixed [10]  [(0, false), (1, false), (2, false), (3, false), (4, false), (6, false), (7, false), (8, false), (9, false), (5, false), (10, true), (11, false), (12, false)] (by decide +kernel) rfl (by simp [*]; rfl) ?_ | refine AW.dreg tok mixed [10]  [(0, false), (1, false), (2, false), (3, false), (4, false), (5, false), (7, false), (8, false), (9, false), (6, false), (10, true), (11, false), (12, false), (13, false)] (by decide +kernel) rfl (by simp [*]; rfl) ?_ | refine AW.reg tok (by simp [*]; rfl) ?_ | refine AW.ifB (by simp [*]; rfl) ?_ | refine IfG.t ?_ | refine IfG.f ?_ | ((first | refine IfG.p (fun hg => ?_) (fun hg => ?_) | refine IfG.n (fun hg => ?_) (fun hg => ?_) | refine OutOK.gateP (fun hg => ?_) (fun hg => ?_) | refine OutOK.gateN (fun hg => ?_) (fun hg => ?_) | refine IfG.g (fun hg => ?_) (fun hg => ?_) | refine OutOK.gate (fun hg => ?_) (fun hg => ?_)) <;> (try (have hg' := hg; simp at hg'))) | (refine OutOK.callF [] (by simp [*]; rfl) (by simp [*]; rfl) (by simp [*]; rfl) hb74 (by apply ca <;> first | assumption | exact Hd.out (by assumption) | ((try clear e2); omega)) ⟨by simp [*], by simp [*], by simp [*], by simp [*], by simp [*]⟩ (by simp [*]) (by simp [*]; rfl) ?_) | refine OutOK.run (by simp [*]; rfl) ?_ | refine AW.ret ?_ | refine AW.skip ?_ | refine AW.exit ?_ | refine fin_r ?_ | refine fin_n ?_ | refine AW.block ?_ | refine blockQ_n ?_ | refine blockQ_r ?_ | refine blockQ_e ?_ | refine blockQ_o rfl ?_)
      simp [Try.f49]
    · have hB : hist b n = false := by rw [hA] at hH; simpa using hH
      rw [hA] at ca
      rw [hB] at cb
      clear hb hb' hm m1 m2 hH hA hB
      refine ACall.of (N := 85) tok Try.func49 rfl rfl rfl (by simp) ?_
      repeat' (first | with_reducible refine OutOK.done ?_ | refine thenQ_n ?_ | refine thenQ_r ?_ | refine thenQ_e ?_ | refine AW.seq ?_ | refine AW.dreg tok mixed [10]  [(0, false), (1, false), (2, false), (3, false), (4, false), (6, false), (7, false), (8, false), (9, false), (5, false), (10, true), (11, false), (12, false)] (by decide +kernel) rfl (by simp [*]; rfl) ?_ | refine AW.dreg tok mixed [10]  [(0, false), (1, false), (2, false), (3, false), (4, false), (5, false), (7, false), (8, false), (9, false), (6, false), (10, true), (11, false), (12, false), (13, false)] (by decide +kernel) rfl (by simp [*]; rfl) ?_ | refine AW.reg tok (by simp [*]; rfl) ?_ | refine AW.ifB (by simp [*]; rfl) ?_ | refine IfG.t ?_ | refine IfG.f ?_ | ((first | refine IfG.p (fun hg => ?_) (fun hg => ?_) | refine IfG.n (fun hg => ?_) (fun hg => ?_) | refine OutOK.gateP (fun hg => ?_) (fun hg => ?_) | refine OutOK.gateN (fun hg => ?_) (fun hg => ?_) | refine IfG.g (fun hg => ?_) (fun hg => ?_) | refine OutOK.gate (fun hg => ?_) (fun hg => ?_)) <;> (try (have hg' := hg; simp at hg'))) | (refine OutOK.callF [] (by simp [*]; rfl) (by simp [*]; rfl) (by simp [*]; rfl) hb74 (by apply ca <;> first | assumption | exact Hd.out (by assumption) | ((try clear e2); omega)) ⟨by simp [*], by simp [*], by simp [*], by simp [*], by simp [*]⟩ (by simp [*]) (by simp [*]; rfl) ?_) | (refine OutOK.callF [] (by simp [*]; rfl) (by simp [*]; rfl) (by simp [*]; rfl) hb74 (by apply cb <;> first | assumption | exact Hd.out (by assumption) | ((try clear e2); omega)) ⟨by simp [*], by simp [*], by simp [*], by simp [*], by simp [*]⟩ (by simp [*]) (by simp [*]; rfl) ?_) | refine OutOK.run (by simp [*]; rfl) ?_ | refine AW.ret ?_ | refine AW.skip ?_ | refine AW.exit ?_ | refine fin_r ?_ | refine fin_n ?_ | refine AW.block ?_ | refine blockQ_n ?_ | refine blockQ_r ?_ | refine blockQ_e ?_ | refine blockQ_o rfl ?_)
      simp [Try.f49]
  have hA : hist a n = true := by simp at hH; exact hH.1
  have hB : hist b n = true := by simp at hH; exact hH.2
  have hm : Hd (mrgO a b n = joinL a a b) := by simp only [Hd, mrgO, if_pos hH]
  have hal := hist_len hA
  have hbl := hist_len hB
  rw [hA] at ca
  rw [hB] at cb
  obtain ⟨R, hR⟩ : ∃ R, Hd (mrgR a b n = R) := ⟨_, rfl⟩
  obtain ⟨B, hBB⟩ : ∃ B, Hd (mrgB a b n = B) := ⟨_, rfl⟩
  rw [hR.out, hBB.out]
  have hb1 : Hd _ := hb
  have hb2 : Hd _ := hb'
  clear hb hb' hA hB hH
  refine ACall.of (N := 85) tok Try.func49 rfl rfl rfl (by simp) ?_
  repeat' (first | with_reducible refine OutOK.done ?_ | refine thenQ_n ?_ | refine thenQ_r ?_ | refine thenQ_e ?_ | refine AW.seq ?_ | refine AW.dreg tok mixed [10]  [(0, false), (1, false), (2, false), (3, false), (4, false), (6, false), (7, false), (8, false), (9, false), (5, false), (10, true), (11, false), (12, false)] (by decide +kernel) rfl (by simp [*]; rfl) ?_ | refine AW.dreg tok mixed [10]  [(0, false), (1, false), (2, false), (3, false), (4, false), (5, false), (7, false), (8, false), (9, false), (6, false), (10, true), (11, false), (12, false), (13, false)] (by decide +kernel) rfl (by simp [*]; rfl) ?_ | refine AW.reg tok (by simp [*]; rfl) ?_ | refine AW.ifB (by simp [*]; rfl) ?_ | refine IfG.t ?_ | refine IfG.f ?_ | ((first | refine IfG.p (fun hg => ?_) (fun hg => ?_) | refine IfG.n (fun hg => ?_) (fun hg => ?_) | refine OutOK.gateP (fun hg => ?_) (fun hg => ?_) | refine OutOK.gateN (fun hg => ?_) (fun hg => ?_) | refine IfG.g (fun hg => ?_) (fun hg => ?_) | refine OutOK.gate (fun hg => ?_) (fun hg => ?_)) <;> (try (have hg' := hg; simp at hg'))) | (refine OutOK.callF [] (by simp [*]; rfl) (by simp [*]; rfl) (by simp [*]; rfl) hb74 (by apply ca <;> first | assumption | exact Hd.out (by assumption) | ((try clear e2); omega)) ⟨by simp [*], by simp [*], by simp [*], by simp [*], by simp [*]⟩ (by simp [*]) (by simp [*]; rfl) ?_) | (refine OutOK.callF [] (by simp [*]; rfl) (by simp [*]; rfl) (by simp [*]; rfl) hb74 (by apply cb <;> first | assumption | exact Hd.out (by assumption) | ((try clear e2); omega)) ⟨by simp [*], by simp [*], by simp [*], by simp [*], by simp [*]⟩ (by simp [*]) (by simp [*]; rfl) ?_) | refine OutOK.run (by simp [*]; rfl) ?_ | refine AW.ret ?_ | refine AW.skip ?_ | refine AW.exit ?_ | refine fin_r ?_ | refine fin_n ?_ | refine AW.block ?_ | refine blockQ_n ?_ | refine blockQ_r ?_ | refine blockQ_e ?_ | refine blockQ_o rfl ?_)
  clear ca cb
  refine AW.loopS (α := Nat) (fun i => i ≤ a.length) (fun i => [(0, .c (.sl true 5 (edts true a))), (1, .c (.sl true 5 (edts true b))), (2, .c (.sc (.int .i64 n))), (8, .rf 37000 []), (9, .c (.sc (.int .i64 (i : Int))))]) (fun i => [(37000, .sv (.sl false 5 (edts false (a.take i))))]) (fun i => a.length - i) 0 (Nat.zero_le _) [(23000, 37000)] (by simp) ⟨by simp, by simp, by simp⟩ ?_
  intro i hi
  rcases Nat.lt_or_ge i a.length with hl | hl
  · have e2 : wrap64 ((i : Int) + 1) = ((i + 1 : Nat) : Int) := by rw [w64 (by omega) (by omega)]; omega
    have cy := c_spec_l22Copy a[i] (hb1.out _ (List.getElem_mem hl)).1
    have hts : Hd (a.take (i + 1) = a.take i ++ [a[i]]) := List.take_succ_eq_append_getElem hl
    have htl : (a.take i).length ≤ 100 := Nat.le_trans (List.length_take_le i a) (by omega)
    generalize a.take i = s1 at *
    have b1 : (s1.length + 1) * 72 ≤ 140737488355328 := by ((try clear e2); omega)
    have b2 : s1.length + 1 ≤ 4611686018427387904 := by ((try clear e2); omega)
    obtain ⟨tm, ct2, ck, it, tx, he⟩ : ∃ tm ct ck it tx, a[i] = ⟨tm, ct, ck, it, tx⟩ := ⟨_, _, _, _, _, rfl⟩
    rw [he] at cy hts
    repeat' (first | with_reducible refine OutOK.done ?_ | refine thenQ_n ?_ | refine thenQ_r ?_ | refine thenQ_e ?_ | refine AW.seq ?_ | refine AW.dreg tok mixed [10]  [(0, false), (1, false), (2, false), (3, false), (4, false), (6, false), (7, false), (8, false), (9, false), (5, false), (10, true), (11, false), (12, false)] (by decide +kernel) rfl (by simp [*]; rfl) ?_ | refine AW.dreg tok mixed [10]  [(0, false), (1, false), (2, false), (3, false), (4, false), (5, false), (7, false), (8, false), (9, false), (6, false), (10, true), (11, false), (12, false), (13, false)] (by decide +kernel) rfl (by simp [*]; rfl) ?_ | refine AW.reg tok (by simp [*]; rfl) ?_ | refine AW.ifB (by simp [*]; rfl) ?_ | refine IfG.t ?_ | refine IfG.f ?_ | ((first | refine IfG.p (fun hg => ?_) (fun hg => ?_) | refine IfG.n (fun hg => ?_) (fun hg => ?_) | refine OutOK.gateP (fun hg => ?_) (fun hg => ?_) | refine OutOK.gateN (fun hg => ?_) (fun hg => ?_) | refine IfG.g (fun hg => ?_) (fun hg => ?_) | refine OutOK.gate (fun hg => ?_) (fun hg => ?_)) <;> (try (have hg' := hg; simp at hg'))) | (refine OutOK.callF [] (by simp [*]; rfl) (by simp [*]; rfl) (by simp [*]; rfl) hb91 (by apply cy <;> first | assumption | exact Hd.out (by assumption) | ((try clear e2); omega)) ⟨by simp [*], by simp [*], by simp [*], by simp [*], by simp [*]⟩ (by simp [*]) (by simp [*]; rfl) ?_) | refine OutOK.run (by simp [*]; rfl) ?_ | refine AW.ret ?_ | refine AW.skip ?_ | refine AW.exit ?_ | refine fin_r ?_ | refine fin_n ?_ | refine AW.block ?_ | refine blockQ_n ?_ | refine blockQ_r ?_ | refine blockQ_e ?_ | refine blockQ_o rfl ?_)
    exact ⟨i + 1, hl, ⟨[], by simp, by simp, by simp [hts.out], by simp⟩, by ((try clear e2); omega)⟩
  have hin : ¬ i < a.length := by omega
  rw [List.take_of_length_le hl]
  clear hi hl
  repeat' (first | with_reducible refine OutOK.done ?_ | refine thenQ_n ?_ | refine thenQ_r ?_ | refine thenQ_e ?_ | refine AW.seq ?_ | refine AW.dreg tok mixed [10]  [(0, false), (1, false), (2, false), (3, false), (4, false), (6, false), (7, false), (8, false), (9, false), (5, false), (10, true), (11, false), (12, false)] (by decide +kernel) rfl (by simp [*]; rfl) ?_ | refine AW.dreg tok mixed [10]  [(0, false), (1, false), (2, false), (3, false), (4, false), (5, false), (7, false), (8, false), (9, false), (6, false), (10, true), (11, false), (12, false), (13, false)] (by decide +kernel) rfl (by simp [*]; rfl) ?_ | refine AW.reg tok (by simp [*]; rfl) ?_ | refine AW.ifB (by simp [*]; rfl) ?_ | refine IfG.t ?_ | refine IfG.f ?_ | ((first | refine IfG.p (fun hg => ?_) (fun hg => ?_) | refine IfG.n (fun hg => ?_) (fun hg => ?_) | refine OutOK.gateP (fun hg => ?_) (fun hg => ?_) | refine OutOK.gateN (fun hg => ?_) (fun hg => ?_) | refine IfG.g (fun hg => ?_) (fun hg => ?_) | refine OutOK.gate (fun hg => ?_) (fun hg => ?_)) <;> (try (have hg' := hg; simp at hg'))) | refine OutOK.run (by simp [*]; rfl) ?_ | refine AW.ret ?_ | refine AW.skip ?_ | refine AW.exit ?_ | refine fin_r ?_ | refine fin_n ?_ | refine AW.block ?_ | refine blockQ_n ?_ | refine blockQ_r ?_ | refine blockQ_e ?_ | refine blockQ_o rfl ?_)
  refine AW.loopS (α := Nat × List Edt) (fun q => q.1 ≤ b.length ∧ q.2.length ≤ a.length + q.1 ∧ Hd (joinL a a b = joinL a q.2 (b.drop q.1)) ∧ Hd (∀ e ∈ q.2, EdtB e)) (fun q => [(0, .c (.sl true 5 (edts true a))), (1, .c (.sl true 5 (edts true b))), (2, .c (.sc (.int .i64 n))), (8, .rf 37000 []), (10, .c (.sc (.int .i64 (q.1 : Int))))]) (fun q => [(37000, .sv (.sl false 5 (edts false q.2)))]) (fun q => b.length - q.1) (0, a) ⟨Nat.zero_le _, by simp, by simp [Hd], hb1⟩ [] (by simp) ⟨by simp, by simp, by simp⟩ ?_
  rintro ⟨j, out⟩ ⟨hj, hol, hjo, hob⟩
  simp only at hj hol hjo hob
  clear hin
  rcases Nat.lt_or_ge j b.length with hl | hl
  · have e2 : wrap64 ((j : Int) + 1) = ((j + 1 : Nat) : Int) := by rw [w64 (by omega) (by omega)]; omega
    have cf := c_spec_l22Find a b[j].tm b[j].ct (by omega)
    have hbj := hb2.out _ (List.getElem_mem hl)
    have cp := c_spec_l22Put out b[j] (by omega) (fun e he => (hob.out e he).1) hbj.1
    have hpm : Hd (∀ e ∈ putL out b[j], EdtB e) := fun e he => by
      rcases putL_mem.1 he with rfl | he
      · exact hbj
      · exact hob.out e he
    have hpl := putL_len out b[j]
    have j1 := fun hf => joinL_put (a := a) (out := out) hl hf
    have j2 := fun k hf hk hs => joinL_same (a := a) (out := out) (k := k) hl hf hk hs
    have j3 := fun k hf hk hs => joinL_no (a := a) (out := out) (k := k) hl hf hk hs
    have cs := fun k (hk : k < a.length) => c_spec_l22Same a[k] b[j] (by have := (hb1.out _ (List.getElem_mem hk)).1; omega)
    have hfc := idx_cases (keyE b[j].tm b[j].ct) a
    rw [show idx (keyE b[j].tm b[j].ct) a = fndE a b[j].tm b[j].ct from rfl] at hfc
    obtain ⟨tm, ct2, ck, it, tx, he⟩ : ∃ tm ct ck it tx, b[j] = ⟨tm, ct, ck, it, tx⟩ := ⟨_, _, _, _, _, rfl⟩
    simp only [he] at cf cp hpm hpl j1 j2 j3 cs hfc
    clear hbj
    generalize putL out ⟨tm, ct2, ck, it, tx⟩ = PO at *
    generalize fndE a tm ct2 = F at *
    rcases hfc with hf | ⟨k, rfl, hk⟩
    · have hq := hjo.out.trans (j1 hf)
      replace hq : Hd _ := hq
      have hf' : ¬ 0 ≤ F := by omega
      clear j1 j2 j3 cs
      repeat' (first | with_reducible refine OutOK.done ?_ | refine thenQ_n ?_ | refine thenQ_r ?_ | refine thenQ_e ?_ | refine AW.seq ?_ | refine AW.dreg tok mixed [10]  [(0, false), (1, false), (2, false), (3, false), (4, false), (6, false), (7, false), (8, false), (9, false), (5, false), (10, true), (11, false), (12, false)] (by decide +kernel) rfl (by simp [*]; rfl) ?_ | refine AW.dreg tok mixed [10]  [(0, false), (1, false), (2, false), (3, false), (4, false), (5, false), (7, false), (8, false), (9, false), (6, false), (10, true), (11, false), (12, false), (13, false)] (by decide +kernel) rfl (by simp [*]; rfl) ?_ | refine AW.reg tok (by simp [*]; rfl) ?_ | refine AW.ifB (by simp [*]; rfl) ?_ | refine IfG.t ?_ | refine IfG.f ?_ | ((first | refine IfG.p (fun hg => ?_) (fun hg => ?_) | refine IfG.n (fun hg => ?_) (fun hg => ?_) | refine OutOK.gateP (fun hg => ?_) (fun hg => ?_) | refine OutOK.gateN (fun hg => ?_) (fun hg => ?_) | refine IfG.g (fun hg => ?_) (fun hg => ?_) | refine OutOK.gate (fun hg => ?_) (fun hg => ?_)) <;> (try (have hg' := hg; simp at hg'))) | (refine OutOK.callF [] (by simp [*]; rfl) (by simp [*]; rfl) (by simp [*]; rfl) hb89 (by apply cf <;> first | assumption | exact Hd.out (by assumption) | ((try clear e2); omega)) ⟨by simp [*], by simp [*], by simp [*], by simp [*], by simp [*]⟩ (by simp [*]) (by simp [*]; rfl) ?_) | (refine OutOK.callF [] (by simp [*]; rfl) (by simp [*]; rfl) (by simp [*]; rfl) hb100 (by apply cp <;> first | assumption | exact Hd.out (by assumption) | ((try clear e2); omega)) ⟨by simp [*], by simp [*], by simp [*], by simp [*], by simp [*]⟩ (by simp [*]) (by simp [*]; rfl) ?_) | refine OutOK.run (by simp [*]; rfl) ?_ | refine AW.ret ?_ | refine AW.skip ?_ | refine AW.exit ?_ | refine fin_r ?_ | refine fin_n ?_ | refine AW.block ?_ | refine blockQ_n ?_ | refine blockQ_r ?_ | refine blockQ_e ?_ | refine blockQ_o rfl ?_)
      exact ⟨(j + 1, PO), ⟨hl, by simp only; ((try clear e2); omega), hq, hpm⟩, ⟨[(78000, 37000)], by simp, by simp, by simp, by simp⟩, by simp only; ((try clear e2); omega)⟩
    · have hck := cs k hk
      have hf1 : ¬ (k : Int) < 0 := by omega
      have hf2 : 0 ≤ (k : Int) := by omega
      cases hS : sameE a[k] ⟨tm, ct2, ck, it, tx⟩
      · rw [hS] at hck
        obtain ⟨m1, m2⟩ := mrg_none (hm.out.trans (hjo.out.trans (j3 k rfl hk hS)))
        have r1 := hR.out
        have r2 := hBB.out
        rw [m2] at r1
        rw [m1] at r2
        subst r1 r2
        clear j1 j2 j3 cs hS m1 m2 cp hpl
        repeat' (first | with_reducible refine OutOK.done ?_ | refine thenQ_n ?_ | refine thenQ_r ?_ | refine thenQ_e ?_ | refine AW.seq ?_ | refine AW.dreg tok mixed [10]  [(0, false), (1, false), (2, false), (3, false), (4, false), (6, false), (7, false), (8, false), (9, false), (5, false), (10, true), (11, false), (12, false)] (by decide +kernel) rfl (by simp [*]; rfl) ?_ | refine AW.dreg tok mixed [10]  [(0, false), (1, false), (2, false), (3, false), (4, false), (5, false), (7, false), (8, false), (9, false), (6, false), (10, true), (11, false), (12, false), (13, false)] (by decide +kernel) rfl (by simp [*]; rfl) ?_ | refine AW.reg tok (by simp [*]; rfl) ?_ | refine AW.ifB (by simp [*]; rfl) ?_ | refine IfG.t ?_ | refine IfG.f ?_ | ((first | refine IfG.p (fun hg => ?_) (fun hg => ?_) | refine IfG.n (fun hg => ?_) (fun hg => ?_) | refine OutOK.gateP (fun hg => ?_) (fun hg => ?_) | refine OutOK.gateN (fun hg => ?_) (fun hg => ?_) | refine IfG.g (fun hg => ?_) (fun hg => ?_) | refine OutOK.gate (fun hg => ?_) (fun hg => ?_)) <;> (try (have hg' := hg; simp at hg'))) | (refine OutOK.callF [] (by simp [*]; rfl) (by simp [*]; rfl) (by simp [*]; rfl) hb89 (by apply cf <;> first | assumption | exact Hd.out (by assumption) | ((try clear e2); omega)) ⟨by simp [*], by simp [*], by simp [*], by simp [*], by simp [*]⟩ (by simp [*]) (by simp [*]; rfl) ?_) | (refine OutOK.callF [] (by simp [*]; rfl) (by simp [*]; rfl) (by simp [*]; rfl) hb99 (by apply hck <;> first | assumption | exact Hd.out (by assumption) | ((try clear e2); omega)) ⟨by simp [*], by simp [*], by simp [*], by simp [*], by simp [*]⟩ (by simp [*]) (by simp [*]; rfl) ?_) | refine OutOK.run (by simp [*]; rfl) ?_ | refine AW.ret ?_ | refine AW.skip ?_ | refine AW.exit ?_ | refine fin_r ?_ | refine fin_n ?_ | refine AW.block ?_ | refine blockQ_n ?_ | refine blockQ_r ?_ | refine blockQ_e ?_ | refine blockQ_o rfl ?_)
        simp [Try.f49]
      · rw [hS] at hck
        have hq := hjo.out.trans (j2 k rfl hk hS)
        replace hq : Hd _ := hq
        clear j1 j2 j3 cs hS cp hpl
        repeat' (first | with_reducible refine OutOK.done ?_ | refine thenQ_n ?_ | refine thenQ_r ?_ | refine thenQ_e ?_ | refine AW.seq ?_ | refine AW.dreg tok mixed [10]  [(0, false), (1, false), (2, false), (3, false), (4, false), (6, false), (7, false), (8, false), (9, false), (5, false), (10, true), (11, false), (12, false)] (by decide +kernel) rfl (by simp [*]; rfl) ?_ | refine AW.dreg tok mixed [10]  [(0, false), (1, false), (2, false), (3, false), (4, false), (5, false), (7, false), (8, false), (9, false), (6, false), (10, true), (11, false), (12, false), (13, false)] (by decide +kernel) rfl (by simp [*]; rfl) ?_ | refine AW.reg tok (by simp [*]; rfl) ?_ | refine AW.ifB (by simp [*]; rfl) ?_ | refine IfG.t ?_ | refine IfG.f ?_ | ((first | refine IfG.p (fun hg => ?_) (fun hg => ?_) | refine IfG.n (fun hg => ?_) (fun hg => ?_) | refine OutOK.gateP (fun hg => ?_) (fun hg => ?_) | refine OutOK.gateN (fun hg => ?_) (fun hg => ?_) | refine IfG.g (fun hg => ?_) (fun hg => ?_) | refine OutOK.gate (fun hg => ?_) (fun hg => ?_)) <;> (try (have hg' := hg; simp at hg'))) | (refine OutOK.callF [] (by simp [*]; rfl) (by simp [*]; rfl) (by simp [*]; rfl) hb89 (by apply cf <;> first | assumption | exact Hd.out (by assumption) | ((try clear e2); omega)) ⟨by simp [*], by simp [*], by simp [*], by simp [*], by simp [*]⟩ (by simp [*]) (by simp [*]; rfl) ?_) | (refine OutOK.callF [] (by simp [*]; rfl) (by simp [*]; rfl) (by simp [*]; rfl) hb99 (by apply hck <;> first | assumption | exact Hd.out (by assumption) | ((try clear e2); omega)) ⟨by simp [*], by simp [*], by simp [*], by simp [*], by simp [*]⟩ (by simp [*]) (by simp [*]; rfl) ?_) | refine OutOK.run (by simp [*]; rfl) ?_ | refine AW.ret ?_ | refine AW.skip ?_ | refine AW.exit ?_ | refine fin_r ?_ | refine fin_n ?_ | refine AW.block ?_ | refine blockQ_n ?_ | refine blockQ_r ?_ | refine blockQ_e ?_ | refine blockQ_o rfl ?_)
        exact ⟨(j + 1, out), ⟨hl, by simp only; ((try clear e2); omega), hq, hob⟩, ⟨[], by simp, by simp, by simp, by simp⟩, by simp only; ((try clear e2); omega)⟩
  · have hjn : ¬ j < b.length := by omega
    have hq := hm.out.trans hjo.out
    rw [List.drop_eq_nil_of_le hl, joinL] at hq
    obtain ⟨m1, m2⟩ := mrg_some hq
    have cg := c_spec_l22Good out n (by omega) (fun e he => (hob.out e he).w)
    have r1 := hR.out
    have r2 := hBB.out
    rw [m2] at r1
    rw [m1] at r2
    clear hq m1 m2 hj hl
    generalize hist out n = G at *
    subst r2
    cases G
    · simp only [Bool.false_eq_true, if_false] at r1
      subst r1
      repeat' (first | with_reducible refine OutOK.done ?_ | refine thenQ_n ?_ | refine thenQ_r ?_ | refine thenQ_e ?_ | refine AW.seq ?_ | refine AW.dreg tok mixed [10]  [(0, false), (1, false), (2, false), (3, false), (4, false), (6, false), (7, false), (8, false), (9, false), (5, false), (10, true), (11, false), (12, false)] (by decide +kernel) rfl (by simp [*]; rfl) ?_ | refine AW.dreg tok mixed [10]  [(0, false), (1, false), (2, false), (3, false), (4, false), (5, false), (7, false), (8, false), (9, false), (6, false), (10, true), (11, false), (12, false), (13, false)] (by decide +kernel) rfl (by simp [*]; rfl) ?_ | refine AW.reg tok (by simp [*]; rfl) ?_ | refine AW.ifB (by simp [*]; rfl) ?_ | refine IfG.t ?_ | refine IfG.f ?_ | ((first | refine IfG.p (fun hg => ?_) (fun hg => ?_) | refine IfG.n (fun hg => ?_) (fun hg => ?_) | refine OutOK.gateP (fun hg => ?_) (fun hg => ?_) | refine OutOK.gateN (fun hg => ?_) (fun hg => ?_) | refine IfG.g (fun hg => ?_) (fun hg => ?_) | refine OutOK.gate (fun hg => ?_) (fun hg => ?_)) <;> (try (have hg' := hg; simp at hg'))) | (refine OutOK.callF [] (by simp [*]; rfl) (by simp [*]; rfl) (by simp [*]; rfl) hb74 (by apply cg <;> first | assumption | exact Hd.out (by assumption) | ((try clear e2); omega)) ⟨by simp [*], by simp [*], by simp [*], by simp [*], by simp [*]⟩ (by simp [*]) (by simp [*]; rfl) ?_) | refine OutOK.run (by simp [*]; rfl) ?_ | refine AW.ret ?_ | refine AW.skip ?_ | refine AW.exit ?_ | refine fin_r ?_ | refine fin_n ?_ | refine AW.block ?_ | refine blockQ_n ?_ | refine blockQ_r ?_ | refine blockQ_e ?_ | refine blockQ_o rfl ?_)
      simp [Try.f49]
    · simp only [if_true] at r1
      subst r1
      repeat' (first | with_reducible refine OutOK.done ?_ | refine thenQ_n ?_ | refine thenQ_r ?_ | refine thenQ_e ?_ | refine AW.seq ?_ | refine AW.dreg tok mixed [10]  [(0, false), (1, false), (2, false), (3, false), (4, false), (6, false), (7, false), (8, false), (9, false), (5, false), (10, true), (11, false), (12, false)] (by decide +kernel) rfl (by simp [*]; rfl) ?_ | refine AW.dreg tok mixed [10]  [(0, false), (1, false), (2, false), (3, false), (4, false), (5, false), (7, false), (8, false), (9, false), (6, false), (10, true), (11, false), (12, false), (13, false)] (by decide +kernel) rfl (by simp [*]; rfl) ?_ | refine AW.reg tok (by simp [*]; rfl) ?_ | refine AW.ifB (by simp [*]; rfl) ?_ | refine IfG.t ?_ | refine IfG.f ?_ | ((first | refine IfG.p (fun hg => ?_) (fun hg => ?_) | refine IfG.n (fun hg => ?_) (fun hg => ?_) | refine OutOK.gateP (fun hg => ?_) (fun hg => ?_) | refine OutOK.gateN (fun hg => ?_) (fun hg => ?_) | refine IfG.g (fun hg => ?_) (fun hg => ?_) | refine OutOK.gate (fun hg => ?_) (fun hg => ?_)) <;> (try (have hg' := hg; simp at hg'))) | (refine OutOK.callF [] (by simp [*]; rfl) (by simp [*]; rfl) (by simp [*]; rfl) hb74 (by apply cg <;> first | assumption | exact Hd.out (by assumption) | ((try clear e2); omega)) ⟨by simp [*], by simp [*], by simp [*], by simp [*], by simp [*]⟩ (by simp [*]) (by simp [*]; rfl) ?_) | refine OutOK.run (by simp [*]; rfl) ?_ | refine AW.ret ?_ | refine AW.skip ?_ | refine AW.exit ?_ | refine fin_r ?_ | refine fin_n ?_ | refine AW.block ?_ | refine blockQ_n ?_ | refine blockQ_r ?_ | refine blockQ_e ?_ | refine blockQ_o rfl ?_)
      simp [Try.f49]
end Go.Proofs.Ytbofobjofngoeaa.EngS


set_option linter.unusedSimpArgs false
set_option linter.unusedVariables false
set_option maxHeartbeats 4000000
set_option maxRecDepth 100000
namespace Go.Proofs.Ytbofobjofngoeaa.EngS
open Go Go.Proofs Go.Eng Go.RowKit
def joinA (a : List Edt) : List Edt → List Edt → Option (List Edt)
  | out, [] => some out
  | out, x :: r => if fndE a x.tm x.ct < 0 then joinA a (out ++ [x]) r else if sameE (a[(fndE a x.tm x.ct).toNat]?.getD default) x = true then joinA a out r else none
theorem joinA_put {a out b : List Edt} {i : Nat} (h : i < b.length) (hf : fndE a b[i].tm b[i].ct < 0) : joinA a out (b.drop i) = joinA a (out ++ [b[i]]) (b.drop (i + 1)) := by
  rw [List.drop_eq_getElem_cons h, joinA, if_pos hf]
theorem joinA_same {a out b : List Edt} {i k : Nat} (h : i < b.length) (hf : fndE a b[i].tm b[i].ct = (k : Int)) (hk : k < a.length) (hs : sameE a[k] b[i] = true) : joinA a out (b.drop i) = joinA a out (b.drop (i + 1)) := by
  rw [List.drop_eq_getElem_cons h, joinA, if_neg (by omega), hf]
  simp [hk, hs]
theorem joinA_no {a out b : List Edt} {i k : Nat} (h : i < b.length) (hf : fndE a b[i].tm b[i].ct = (k : Int)) (hk : k < a.length) (hs : sameE a[k] b[i] = false) : joinA a out (b.drop i) = none := by
  rw [List.drop_eq_getElem_cons h, joinA, if_neg (by omega), hf]
  simp [hk, hs]
def SS (l : List Edt) : Prop := l.Pairwise (fun x y => cmpE x y < 0)
theorem SS.two {l : List Edt} (h : SS l) : l.Pairwise (fun x y => ¬ cmpE y x < 0) :=
  List.Pairwise.imp (fun {x y} h => by rw [cmpE_lt] at *; omega) h
theorem SS.one {l : List Edt} (h : SS l) : ∀ x ∈ l, ∀ y ∈ l, x.tm = y.tm → x.ct = y.ct → x = y := by
  induction l with
  | nil => intro x hx; cases hx
  | cons a r ih =>
    obtain ⟨h1, h2⟩ := List.pairwise_cons.1 h
    intro x hx y hy e1 e2
    rcases List.mem_cons.1 hx with hx | hx <;> rcases List.mem_cons.1 hy with hy | hy
    · rw [hx, hy]
    · have := (cmpE_lt _ _).1 (h1 y hy); rw [hx] at e1 e2; omega
    · have := (cmpE_lt _ _).1 (h1 x hx); rw [hy] at e1 e2; omega
    · exact ih h2 x hx y hy e1 e2
theorem SS_put {l : List Edt} {e : Edt} (h : SS l) (hn : ∀ x ∈ l, ¬ (x.tm = e.tm ∧ x.ct = e.ct)) : SS (putL l e) := by
  induction l with
  | nil => simp [putL, SS]
  | cons a r ih =>
    obtain ⟨h1, h2⟩ := List.pairwise_cons.1 h
    cases hb : befE e a
    · have hp : putL (a :: r) e = e :: a :: r := by simp [putL, hb]
      have hea : cmpE e a < 0 := by
        have h3 := hn a (by simp)
        simp only [befE, decide_eq_false_iff_not] at hb
        rw [cmpE_lt]
        omega
      rw [hp]
      refine List.pairwise_cons.2 ⟨fun x hx => ?_, h⟩
      rcases List.mem_cons.1 hx with rfl | hx
      · exact hea
      · have h4 := h1 x hx
        rw [cmpE_lt] at *
        omega
    · have hp : putL (a :: r) e = a :: putL r e := by simp [putL, hb]
      rw [hp]
      refine List.pairwise_cons.2 ⟨fun x hx => ?_, ih h2 (fun x hx => hn x (by simp [hx]))⟩
      rcases putL_mem.1 hx with rfl | hx
      · simpa [befE_cmp] using hb
      · exact h1 x hx
theorem fndE_neg {l : List Edt} {t n : Int} (h : fndE l t n < 0) : ∀ x ∈ l, ¬ (x.tm = t ∧ x.ct = n) := by
  intro x hx hc
  rcases idx_one (keyE t n) l with ⟨_, h2⟩ | ⟨i, _, h3, _⟩
  · have := List.any_eq_false.1 h2 x hx
    simp [keyE, hc.1, hc.2] at this
  · have : fndE l t n = (i : Int) := h3
    omega
theorem join_both (a : List Edt) : ∀ (b outL outA : List Edt), SS b → SS outL → outA.Perm outL → (∀ x ∈ outL, x ∈ a ∨ ∀ y ∈ b, cmpE x y < 0) →
    match joinA a outA b, joinL a outL b with
    | some m, some m2 => SS m2 ∧ m.Perm m2
    | none, none => True
    | _, _ => False
  | [], outL, outA, _, h1, h2, _ => ⟨h1, h2⟩
  | x :: r, outL, outA, hb, h1, h2, h3 => by
    obtain ⟨hx, hr⟩ := List.pairwise_cons.1 hb
    rw [joinA, joinL]
    by_cases hf : fndE a x.tm x.ct < 0
    · rw [if_pos hf, if_pos hf]
      refine join_both a r (putL outL x) (outA ++ [x]) hr (SS_put h1 fun y hy hc => ?_) ?_ ?_
      · rcases h3 y hy with h | h
        · exact fndE_neg hf y h hc
        · have := (cmpE_lt _ _).1 (h x (by simp)); omega
      · exact (List.perm_append_comm.trans (by simpa using List.Perm.cons x h2)).trans (putL_perm outL x).symm
      · intro y hy
        rcases putL_mem.1 hy with rfl | hy
        · exact .inr hx
        · exact (h3 y hy).imp id (fun h z hz => h z (by simp [hz]))
    · rw [if_neg hf, if_neg hf]
      by_cases hs : sameE (a[(fndE a x.tm x.ct).toNat]?.getD default) x = true
      · rw [if_pos hs, if_pos hs]
        exact join_both a r outL outA hr h1 h2 (fun y hy => (h3 y hy).imp id (fun h z hz => h z (by simp [hz])))
      · rw [if_neg hs, if_neg hs]
        trivial
theorem hist_SS {l : List Edt} {n : Int} (h : hist l n = true) : SS l := by
  have hh := (hist_iff'.1 h).st
  have key : ∀ (d i : Nat) (hi : i + d + 1 < l.length), cmpE l[i] l[i + d + 1] < 0 := by
    intro d
    induction d with
    | zero => intro i hi; exact (hh (i + 1) (by omega)).2.1 i (by omega) rfl
    | succ d ih =>
      intro i hi
      have h1 := ih i (by omega)
      have h3 : cmpE l[i + d + 1] l[i + (d + 1) + 1] < 0 := (hh (i + (d + 1) + 1) hi).2.1 (i + d + 1) (by omega) rfl
      rw [cmpE_lt] at *
      omega
  rw [SS, List.pairwise_iff_getElem]
  intro i j hi hj hij
  obtain ⟨d, rfl⟩ : ∃ d, j = i + d + 1 := ⟨j - i - 1, by omega⟩
  exact key d i hj
theorem mrg_fin {a b m : List Edt} {n : Int} (hA : hist a n = true) (hB : hist b n = true) (h : joinA a a b = some m) : ∃ m2, mrgO a b n = some m2 ∧ ∀ l' : List Edt, l'.Perm m → l'.Pairwise (fun x y => ¬ cmpE y x < 0) → l' = m2 := by
  have hj := join_both a b a a (hist_SS hB) (hist_SS hA) (.refl _) (fun x hx => .inl hx)
  rw [h] at hj
  cases hL : joinL a a b with
  | none => rw [hL] at hj; exact hj.elim
  | some m2 =>
    rw [hL] at hj
    refine ⟨m2, by simp [mrgO, hA, hB, hL], fun l' hp hs => ?_⟩
    refine sorted_same (hp.trans hj.2) hs hj.1.two (fun x hx y hy h1 h2 => ?_)
    rw [cmpE_lt] at h1 h2
    exact hj.1.one x hx y hy (by omega) (by omega)
theorem mrg_non {a b : List Edt} {n : Int} (hA : hist a n = true) (hB : hist b n = true) (h : joinA a a b = none) : mrgO a b n = none := by
  have hj := join_both a b a a (hist_SS hB) (hist_SS hA) (.refl _) (fun x hx => .inl hx)
  rw [h] at hj
  cases hL : joinL a a b with
  | none => simp [mrgO, hA, hB, hL]
  | some m2 => rw [hL] at hj; exact hj.elim
end Go.Proofs.Ytbofobjofngoeaa.EngS


set_option linter.unusedSimpArgs false
set_option linter.unusedVariables false
set_option maxHeartbeats 4000000
set_option maxRecDepth 100000
namespace Go.Proofs.Ytbofobjofngoeaa.EngS
open Go Go.Proofs Go.Eng Go.RowKit
def RestE (b : List Edt) (j : Nat) (es : List PV) : Prop := es.length = b.length ∧ (∀ k (hk : k < b.length), j ≤ k → es[k]? = some (.ag (edtC false b[k])))
theorem RestE_start (b : List Edt) : RestE b 0 (edts false b) := ⟨by simp [els], fun k hk _ => by simp [els, hk]⟩
theorem RestE_set {b : List Edt} {j : Nat} {es : List PV} (h : RestE b j es) (x : PV) : RestE b (j + 1) (es.set j x) :=
  ⟨by simp [h.1], fun k hk hjk => by rw [List.getElem?_set_ne (by omega)]; exact h.2 k hk (by omega)⟩
theorem c_impl_MergeHistories (a b : List Edt) (n : Int) (h : a.length ≤ 1048576) (hb : ∀ e ∈ a, EdtB e) (h' : b.length ≤ 1048576) (hb' : ∀ e ∈ b, EdtB e) :
    ACall Try.prog 50 [.v (.sl true 5 (edts true a)), .v (.sl true 5 (edts true b)), int n] [.x, .x, .x] [.v (.sl false 5 (edts false (mrgR a b n))), boo (mrgB a b n)] := by
  refine ACallX.one ?_
  have ca := c_impl_IsValidHistory a n (by omega) (fun e he => (hb e he).w)
  have cb := c_impl_IsValidHistory b n (by omega) (fun e he => (hb' e he).w)
  by_cases hH : (hist a n && hist b n) = true
  case neg =>
    have hm : mrgO a b n = none := by simp only [mrgO, if_neg hH]
    obtain ⟨m1, m2⟩ := mrg_none hm
    rw [m1, m2]
    cases hA : hist a n
    · rw [hA] at ca
      clear hb hb' hm m1 m2 hH hA
      generalize hist b n = B at *
      refine ACallX.of (N := 58) tok Try.func50 rfl rfl rfl (by simp) ?_
      repeat' (first | with_reducible refine OutOK.done ?_ | refine thenQ_n ?_ | refine thenQ_r ?_ | refine thenQ_e ?_ | refine AW.seq ?_ | refine AW.dreg tok mixed [4]  [(0, false), (1, false), (2, false), (3, false), (4, true), (5, false), (6, false)] (by decide +kernel) rfl (by simp [*]; rfl) ?_ | refine AW.reg tok (by simp [*]; rfl) ?_ | refine AW.ifB (by simp [*]; rfl) ?_ | refine IfG.t ?_ | refine IfG.f ?_ | ((first | refine IfG.p (fun hg => ?_) (fun hg => ?_) | refine IfG.n (fun hg => ?_) (fun hg => ?_) | refine OutOK.gateP (fun hg => ?_) (fun hg => ?_) | refine OutOK.gateN (fun hg => ?_) (fun hg => ?_) | refine IfG.g (fun hg => ?_) (fun hg => ?_) | refine OutOK.gate (fun hg => ?_) (fun hg => ?_)) <;> (try (have hg' := hg; simp at hg'))) | (refine OutOK.callF [] (by simp [*]; rfl) (by simp [*]; rfl) (by simp [*]; rfl) hb26 (by apply ca <;> first | assumption | exact Hd.out (by assumption) | ((try clear e2); omega)) ⟨by simp [*], by simp [*], by simp [*], by simp [*], by simp [*]⟩ (by simp [*]) (by simp [*]; rfl) ?_) | refine OutOK.run (by simp [*]; rfl) ?_ | refine AW.ret ?_ | refine AW.skip ?_ | refine AW.exit ?_ | refine fin_r ?_ | refine fin_n ?_ | refine AW.block ?_ | refine blockQ_n ?_ | refine blockQ_r ?_ | refine blockQ_e ?_ | refine blockQ_o rfl ?_)
      exact ⟨(), trivial, by simp [Try.f50]⟩
    · have hB : hist b n = false := by rw [hA] at hH; simpa using hH
      rw [hA] at ca
      rw [hB] at cb
      clear hb hb' hm m1 m2 hH hA hB
      refine ACallX.of (N := 58) tok Try.func50 rfl rfl rfl (by simp) ?_
      repeat' (first | with_reducible refine OutOK.done ?_ | refine thenQ_n ?_ | refine thenQ_r ?_ | refine thenQ_e ?_ | refine AW.seq ?_ | refine AW.dreg tok mixed [4]  [(0, false), (1, false), (2, false), (3, false), (4, true), (5, false), (6, false)] (by decide +kernel) rfl (by simp [*]; rfl) ?_ | refine AW.reg tok (by simp [*]; rfl) ?_ | refine AW.ifB (by simp [*]; rfl) ?_ | refine IfG.t ?_ | refine IfG.f ?_ | ((first | refine IfG.p (fun hg => ?_) (fun hg => ?_) | refine IfG.n (fun hg => ?_) (fun hg => ?_) | refine OutOK.gateP (fun hg => ?_) (fun hg => ?_) | refine OutOK.gateN (fun hg => ?_) (fun hg => ?_) | refine IfG.g (fun hg => ?_) (fun hg => ?_) | refine OutOK.gate (fun hg => ?_) (fun hg => ?_)) <;> (try (have hg' := hg; simp at hg'))) | (refine OutOK.callF [] (by simp [*]; rfl) (by simp [*]; rfl) (by simp [*]; rfl) hb26 (by apply ca <;> first | assumption | exact Hd.out (by assumption) | ((try clear e2); omega)) ⟨by simp [*], by simp [*], by simp [*], by simp [*], by simp [*]⟩ (by simp [*]) (by simp [*]; rfl) ?_) | (refine OutOK.callF [] (by simp [*]; rfl) (by simp [*]; rfl) (by simp [*]; rfl) hb26 (by apply cb <;> first | assumption | exact Hd.out (by assumption) | ((try clear e2); omega)) ⟨by simp [*], by simp [*], by simp [*], by simp [*], by simp [*]⟩ (by simp [*]) (by simp [*]; rfl) ?_) | refine OutOK.run (by simp [*]; rfl) ?_ | refine AW.ret ?_ | refine AW.skip ?_ | refine AW.exit ?_ | refine fin_r ?_ | refine fin_n ?_ | refine AW.block ?_ | refine blockQ_n ?_ | refine blockQ_r ?_ | refine blockQ_e ?_ | refine blockQ_o rfl ?_)
      exact ⟨(), trivial, by simp [Try.f50]⟩
  have hA : hist a n = true := by simp at hH; exact hH.1
  have hB : hist b n = true := by simp at hH; exact hH.2
  have hfin : Hd (∀ m, joinA a a b = some m → ∃ m2, mrgO a b n = some m2 ∧ ∀ l' : List Edt, l'.Perm m → l'.Pairwise (fun x y => ¬ cmpE y x < 0) → l' = m2) := fun m hm => mrg_fin hA hB hm
  have hnon : Hd (joinA a a b = none → mrgO a b n = none) := fun hm => mrg_non hA hB hm
  have hal := hist_len hA
  have hbl := hist_len hB
  rw [hA] at ca
  rw [hB] at cb
  obtain ⟨R, hR⟩ : ∃ R, Hd (mrgR a b n = R) := ⟨_, rfl⟩
  obtain ⟨B, hBB⟩ : ∃ B, Hd (mrgB a b n = B) := ⟨_, rfl⟩
  rw [hR.out, hBB.out]
  have hb1 : Hd _ := hb
  have hb2 : Hd _ := hb'
  have cpa := c_impl_copyEdits a (by omega) (fun e he => (hb e he).1)
  have cpb := c_impl_copyEdits b (by omega) (fun e he => (hb' e he).1)
  clear hb hb' hA hB hH
  refine ACallX.of (N := 58) tok Try.func50 rfl rfl rfl (by simp) ?_
  repeat' (first | with_reducible refine OutOK.done ?_ | refine thenQ_n ?_ | refine thenQ_r ?_ | refine thenQ_e ?_ | refine AW.seq ?_ | refine AW.dreg tok mixed [4]  [(0, false), (1, false), (2, false), (3, false), (4, true), (5, false), (6, false)] (by decide +kernel) rfl (by simp [*]; rfl) ?_ | refine AW.reg tok (by simp [*]; rfl) ?_ | refine AW.ifB (by simp [*]; rfl) ?_ | refine IfG.t ?_ | refine IfG.f ?_ | ((first | refine IfG.p (fun hg => ?_) (fun hg => ?_) | refine IfG.n (fun hg => ?_) (fun hg => ?_) | refine OutOK.gateP (fun hg => ?_) (fun hg => ?_) | refine OutOK.gateN (fun hg => ?_) (fun hg => ?_) | refine IfG.g (fun hg => ?_) (fun hg => ?_) | refine OutOK.gate (fun hg => ?_) (fun hg => ?_)) <;> (try (have hg' := hg; simp at hg'))) | (refine OutOK.callF [] (by simp [*]; rfl) (by simp [*]; rfl) (by simp [*]; rfl) hb26 (by apply ca <;> first | assumption | exact Hd.out (by assumption) | ((try clear e2); omega)) ⟨by simp [*], by simp [*], by simp [*], by simp [*], by simp [*]⟩ (by simp [*]) (by simp [*]; rfl) ?_) | (refine OutOK.callF [] (by simp [*]; rfl) (by simp [*]; rfl) (by simp [*]; rfl) hb26 (by apply cb <;> first | assumption | exact Hd.out (by assumption) | ((try clear e2); omega)) ⟨by simp [*], by simp [*], by simp [*], by simp [*], by simp [*]⟩ (by simp [*]) (by simp [*]; rfl) ?_) | (refine OutOK.callF [] (by simp [*]; rfl) (by simp [*]; rfl) (by simp [*]; rfl) hb95 (by apply cpa <;> first | assumption | exact Hd.out (by assumption) | ((try clear e2); omega)) ⟨by simp [*], by simp [*], by simp [*], by simp [*], by simp [*]⟩ (by simp [*]) (by simp [*]; rfl) ?_) | (refine OutOK.callF [] (by simp [*]; rfl) (by simp [*]; rfl) (by simp [*]; rfl) hb95 (by apply cpb <;> first | assumption | exact Hd.out (by assumption) | ((try clear e2); omega)) ⟨by simp [*], by simp [*], by simp [*], by simp [*], by simp [*]⟩ (by simp [*]) (by simp [*]; rfl) ?_) | refine OutOK.run (by simp [*]; rfl) ?_ | refine AW.ret ?_ | refine AW.skip ?_ | refine AW.exit ?_ | refine fin_r ?_ | refine fin_n ?_ | refine AW.block ?_ | refine blockQ_n ?_ | refine blockQ_r ?_ | refine blockQ_e ?_ | refine blockQ_o rfl ?_)
  clear ca cb cpa cpb
  refine AW.loopS (α := Nat × List Edt × List PV) (fun q => q.1 ≤ b.length ∧ q.2.1.length ≤ a.length + q.1 ∧ Hd (joinA a a b = joinA a q.2.1 (b.drop q.1)) ∧ Hd (∀ e ∈ q.2.1, EdtB e) ∧ Hd (RestE b q.1 q.2.2)) (fun q => [(0, .c (.sl true 5 (edts true a))), (2, .c (.sc (.int .i64 n))), (8, .rf 23000 []), (25, .rf 25000 []), (26, .c (.sc (.int .i64 (b.length : Int)))), (27, .c (.sc (.int .i64 (q.1 : Int))))]) (fun q => [(23000, .sv (.sl false 5 (edts false q.2.1))), (25000, .sv (.sl false 5 q.2.2))]) (fun q => b.length - q.1) (0, a, edts false b) ⟨Nat.zero_le _, by simp, by simp [Hd], hb1, RestE_start b⟩ [] (by simp) ⟨by simp, by simp, by simp⟩ ?_
  rintro ⟨j, out, es⟩ ⟨hj, hol, hjo, hob, hre⟩
  simp only at hj hol hjo hob hre
  rcases Nat.lt_or_ge j b.length with hl | hl
  · have e2 : wrap64 ((j : Int) + 1) = ((j + 1 : Nat) : Int) := by rw [w64 (by omega) (by omega)]; omega
    have cf := c_impl_editOf a b[j].tm b[j].ct (by omega)
    have hbj := hb2.out _ (List.getElem_mem hl)
    have j1 := fun hf => joinA_put (a := a) (out := out) hl hf
    have j2 := fun k hf hk hs => joinA_same (a := a) (out := out) (k := k) hl hf hk hs
    have j3 := fun k hf hk hs => joinA_no (a := a) (out := out) (k := k) hl hf hk hs
    have cs := fun k (hk : k < a.length) => c_impl_sameEdit a[k] b[j] (by have := (hb1.out _ (List.getElem_mem hk)).1; omega)
    have hfc := idx_cases (keyE b[j].tm b[j].ct) a
    rw [show idx (keyE b[j].tm b[j].ct) a = fndE a b[j].tm b[j].ct from rfl] at hfc
    have hel : j < es.length := by rw [hre.out.1]; exact hl
    have heg : es[j]? = some (.ag (edtC false b[j])) := hre.out.2 j hl (Nat.le_refl _)
    have hset : Hd (∀ x, RestE b (j + 1) (es.set j x)) := fun x => RestE_set hre.out x
    have hob2 : Hd (∀ e ∈ out ++ [b[j]], EdtB e) := fun e he => by
      rcases List.mem_append.1 he with he | he
      · exact hob.out e he
      · simp at he; rw [he]; exact hbj
    obtain ⟨tm, ct2, ck, it, tx, he⟩ : ∃ tm ct ck it tx, b[j] = ⟨tm, ct, ck, it, tx⟩ := ⟨_, _, _, _, _, rfl⟩
    simp only [he] at cf j1 j2 j3 cs hfc heg hob2
    have heg2 : es[j] = .ag (edtC false ⟨tm, ct2, ck, it, tx⟩) := by rw [List.getElem?_eq_getElem hel, Option.some.injEq] at heg; exact heg
    simp only [edtC_eq] at heg heg2
    clear hbj he
    generalize fndE a tm ct2 = F at *
    have b1 : (out.length + 1) * 72 ≤ 140737488355328 := by ((try clear e2); omega)
    have b2 : out.length + 1 ≤ 4611686018427387904 := by ((try clear e2); omega)
    rcases hfc with hf | ⟨k, rfl, hk⟩
    · have hq := hjo.out.trans (j1 hf)
      replace hq : Hd _ := hq
      clear j1 j2 j3 cs
      repeat' (first | with_reducible refine OutOK.done ?_ | refine thenQ_n ?_ | refine thenQ_r ?_ | refine thenQ_e ?_ | refine AW.seq ?_ | refine AW.dreg tok mixed [4]  [(0, false), (1, false), (2, false), (3, false), (4, true), (5, false), (6, false)] (by decide +kernel) rfl (by simp [*]; rfl) ?_ | refine AW.reg tok (by simp [*]; rfl) ?_ | refine AW.ifB (by simp [*]; rfl) ?_ | refine IfG.t ?_ | refine IfG.f ?_ | ((first | refine IfG.p (fun hg => ?_) (fun hg => ?_) | refine IfG.n (fun hg => ?_) (fun hg => ?_) | refine OutOK.gateP (fun hg => ?_) (fun hg => ?_) | refine OutOK.gateN (fun hg => ?_) (fun hg => ?_) | refine IfG.g (fun hg => ?_) (fun hg => ?_) | refine OutOK.gate (fun hg => ?_) (fun hg => ?_)) <;> (try (have hg' := hg; simp at hg'))) | (refine OutOK.callF [] (by simp [*]; rfl) (by simp [*]; rfl) (by simp [*]; rfl) hb92 (by apply cf <;> first | assumption | exact Hd.out (by assumption) | ((try clear e2); omega)) ⟨by simp [*], by simp [*], by simp [*], by simp [*], by simp [*]⟩ (by simp [*]) (by simp [*]; rfl) ?_) | refine OutOK.run (by simp [*]; rfl) ?_ | refine AW.ret ?_ | refine AW.skip ?_ | refine AW.exit ?_ | refine fin_r ?_ | refine fin_n ?_ | refine AW.block ?_ | refine blockQ_n ?_ | refine blockQ_r ?_ | refine blockQ_e ?_ | refine blockQ_o rfl ?_)
      exact ⟨(j + 1, out ++ [⟨tm, ct2, ck, it, tx⟩], es.set j (.ag [.sc (.int .i64 tm), .sc (.int .i64 ct2), .xx, .sc (.string it), .sc (.string tx)])), ⟨hl, by simp; ((try clear e2); omega), hq, hob2, hset.out _⟩, ⟨[(42000, 23000)], by simp, by simp, by simp, by simp⟩, by simp only; ((try clear e2); omega)⟩
    · have hck := cs k hk
      have hf1 : ¬ (k : Int) < 0 := by omega
      cases hS : sameE a[k] ⟨tm, ct2, ck, it, tx⟩
      · rw [hS] at hck
        obtain ⟨m1, m2⟩ := mrg_none (hnon.out (hjo.out.trans (j3 k rfl hk hS)))
        have r1 := hR.out
        have r2 := hBB.out
        rw [m2] at r1
        rw [m1] at r2
        subst r1 r2
        clear j1 j2 j3 cs hS m1 m2
        repeat' (first | with_reducible refine OutOK.done ?_ | refine thenQ_n ?_ | refine thenQ_r ?_ | refine thenQ_e ?_ | refine AW.seq ?_ | refine AW.dreg tok mixed [4]  [(0, false), (1, false), (2, false), (3, false), (4, true), (5, false), (6, false)] (by decide +kernel) rfl (by simp [*]; rfl) ?_ | refine AW.reg tok (by simp [*]; rfl) ?_ | refine AW.ifB (by simp [*]; rfl) ?_ | refine IfG.t ?_ | refine IfG.f ?_ | ((first | refine IfG.p (fun hg => ?_) (fun hg => ?_) | refine IfG.n (fun hg => ?_) (fun hg => ?_) | refine OutOK.gateP (fun hg => ?_) (fun hg => ?_) | refine OutOK.gateN (fun hg => ?_) (fun hg => ?_) | refine IfG.g (fun hg => ?_) (fun hg => ?_) | refine OutOK.gate (fun hg => ?_) (fun hg => ?_)) <;> (try (have hg' := hg; simp at hg'))) | (refine OutOK.callF [] (by simp [*]; rfl) (by simp [*]; rfl) (by simp [*]; rfl) hb92 (by apply cf <;> first | assumption | exact Hd.out (by assumption) | ((try clear e2); omega)) ⟨by simp [*], by simp [*], by simp [*], by simp [*], by simp [*]⟩ (by simp [*]) (by simp [*]; rfl) ?_) | (refine OutOK.callF [] (by simp [*]; rfl) (by simp [*]; rfl) (by simp [*]; rfl) hb101 (by apply hck <;> first | assumption | exact Hd.out (by assumption) | ((try clear e2); omega)) ⟨by simp [*], by simp [*], by simp [*], by simp [*], by simp [*]⟩ (by simp [*]) (by simp [*]; rfl) ?_) | refine OutOK.run (by simp [*]; rfl) ?_ | refine AW.ret ?_ | refine AW.skip ?_ | refine AW.exit ?_ | refine fin_r ?_ | refine fin_n ?_ | refine AW.block ?_ | refine blockQ_n ?_ | refine blockQ_r ?_ | refine blockQ_e ?_ | refine blockQ_o rfl ?_)
        exact ⟨(), trivial, by simp [Try.f50]⟩
      · rw [hS] at hck
        have hq := hjo.out.trans (j2 k rfl hk hS)
        replace hq : Hd _ := hq
        clear j1 j2 j3 cs hS
        repeat' (first | with_reducible refine OutOK.done ?_ | refine thenQ_n ?_ | refine thenQ_r ?_ | refine thenQ_e ?_ | refine AW.seq ?_ | refine AW.dreg tok mixed [4]  [(0, false), (1, false), (2, false), (3, false), (4, true), (5, false), (6, false)] (by decide +kernel) rfl (by simp [*]; rfl) ?_ | refine AW.reg tok (by simp [*]; rfl) ?_ | refine AW.ifB (by simp [*]; rfl) ?_ | refine IfG.t ?_ | refine IfG.f ?_ | ((first | refine IfG.p (fun hg => ?_) (fun hg => ?_) | refine IfG.n (fun hg => ?_) (fun hg => ?_) | refine OutOK.gateP (fun hg => ?_) (fun hg => ?_) | refine OutOK.gateN (fun hg => ?_) (fun hg => ?_) | refine IfG.g (fun hg => ?_) (fun hg => ?_) | refine OutOK.gate (fun hg => ?_) (fun hg => ?_)) <;> (try (have hg' := hg; simp at hg'))) | (refine OutOK.callF [] (by simp [*]; rfl) (by simp [*]; rfl) (by simp [*]; rfl) hb92 (by apply cf <;> first | assumption | exact Hd.out (by assumption) | ((try clear e2); omega)) ⟨by simp [*], by simp [*], by simp [*], by simp [*], by simp [*]⟩ (by simp [*]) (by simp [*]; rfl) ?_) | (refine OutOK.callF [] (by simp [*]; rfl) (by simp [*]; rfl) (by simp [*]; rfl) hb101 (by apply hck <;> first | assumption | exact Hd.out (by assumption) | ((try clear e2); omega)) ⟨by simp [*], by simp [*], by simp [*], by simp [*], by simp [*]⟩ (by simp [*]) (by simp [*]; rfl) ?_) | refine OutOK.run (by simp [*]; rfl) ?_ | refine AW.ret ?_ | refine AW.skip ?_ | refine AW.exit ?_ | refine fin_r ?_ | refine fin_n ?_ | refine AW.block ?_ | refine blockQ_n ?_ | refine blockQ_r ?_ | refine blockQ_e ?_ | refine blockQ_o rfl ?_)
        exact ⟨(j + 1, out, es.set j (.ag [.sc (.int .i64 tm), .sc (.int .i64 ct2), .xx, .sc (.string it), .sc (.string tx)])), ⟨hl, by simp only; ((try clear e2); omega), hq, hob, hset.out _⟩, ⟨[], by simp, by simp, by simp, by simp⟩, by simp only; ((try clear e2); omega)⟩
  · have hjn : ¬ j < b.length := by omega
    have hq := hjo.out
    rw [List.drop_eq_nil_of_le hl, joinA] at hq
    obtain ⟨m2, hm2, hun⟩ := hfin.out _ hq
    obtain ⟨q1, q2⟩ := mrg_some hm2
    have r1 := hR.out
    have r2 := hBB.out
    rw [q2] at r1
    rw [q1] at r2
    replace hun : Hd _ := hun
    have csf := x_SortFunc_edt out (by omega)
    have hoL : out.length ≤ 48 := by omega
    clear hq q1 q2 hm2 hj hl
    replace r1 : Hd _ := r1
    replace r2 : Hd _ := r2
    repeat' (first | with_reducible refine OutOK.done ?_ | refine thenQ_n ?_ | refine thenQ_r ?_ | refine thenQ_e ?_ | refine AW.seq ?_ | refine AW.dreg tok mixed [4]  [(0, false), (1, false), (2, false), (3, false), (4, true), (5, false), (6, false)] (by decide +kernel) rfl (by simp [*]; rfl) ?_ | refine AW.reg tok (by simp [*]; rfl) ?_ | refine AW.ifB (by simp [*]; rfl) ?_ | refine IfG.t ?_ | refine IfG.f ?_ | ((first | refine IfG.p (fun hg => ?_) (fun hg => ?_) | refine IfG.n (fun hg => ?_) (fun hg => ?_) | refine OutOK.gateP (fun hg => ?_) (fun hg => ?_) | refine OutOK.gateN (fun hg => ?_) (fun hg => ?_) | refine IfG.g (fun hg => ?_) (fun hg => ?_) | refine OutOK.gate (fun hg => ?_) (fun hg => ?_)) <;> (try (have hg' := hg; simp at hg'))) | refine OutOK.run (by simp [*]; rfl) ?_ | refine AW.ret ?_ | refine AW.skip ?_ | refine AW.exit ?_ | refine fin_r ?_ | refine fin_n ?_ | refine AW.block ?_ | refine blockQ_n ?_ | refine blockQ_r ?_ | refine blockQ_e ?_ | refine blockQ_o rfl ?_)
    refine OutOK.callX [true] (by simp [*]; rfl) (by simp [*]; rfl) (by simp [*]; rfl) hb102 (by apply csf <;> first | assumption | exact Hd.out (by assumption) | ((try clear e2); omega)) ⟨by simp [*], by simp [*], by simp [*]⟩ (by simp [*]) (fun x hx => ?_)
    obtain ⟨p1, p2⟩ := hx
    have hxm : x = m2 := hun.out x p1 p2
    have cg := c_impl_IsValidHistory x n (by have := p1.length_eq; omega) (fun e he => (hob.out e (p1.mem_iff.1 he)).w)
    have r1 := r1.out
    have r2 := r2.out
    rw [← hxm] at r1 r2
    clear hxm hun p1 p2 csf
    generalize hist x n = G at *
    subst r2
    cases G
    · simp only [Bool.false_eq_true, if_false] at r1
      subst r1
      refine CallX.mk' ⟨by simp [*], by simp [*], by simp [*], by simp [*], by simp [*]⟩ (by simp [*]; rfl) ?_
      repeat' (first | with_reducible refine OutOK.done ?_ | refine thenQ_n ?_ | refine thenQ_r ?_ | refine thenQ_e ?_ | refine AW.seq ?_ | refine AW.dreg tok mixed [4]  [(0, false), (1, false), (2, false), (3, false), (4, true), (5, false), (6, false)] (by decide +kernel) rfl (by simp [*]; rfl) ?_ | refine AW.reg tok (by simp [*]; rfl) ?_ | refine AW.ifB (by simp [*]; rfl) ?_ | refine IfG.t ?_ | refine IfG.f ?_ | ((first | refine IfG.p (fun hg => ?_) (fun hg => ?_) | refine IfG.n (fun hg => ?_) (fun hg => ?_) | refine OutOK.gateP (fun hg => ?_) (fun hg => ?_) | refine OutOK.gateN (fun hg => ?_) (fun hg => ?_) | refine IfG.g (fun hg => ?_) (fun hg => ?_) | refine OutOK.gate (fun hg => ?_) (fun hg => ?_)) <;> (try (have hg' := hg; simp at hg'))) | (refine OutOK.callF [] (by simp [*]; rfl) (by simp [*]; rfl) (by simp [*]; rfl) hb26 (by apply cg <;> first | assumption | exact Hd.out (by assumption) | ((try clear e2); omega)) ⟨by simp [*], by simp [*], by simp [*], by simp [*], by simp [*]⟩ (by simp [*]) (by simp [*]; rfl) ?_) | refine OutOK.run (by simp [*]; rfl) ?_ | refine AW.ret ?_ | refine AW.skip ?_ | refine AW.exit ?_ | refine fin_r ?_ | refine fin_n ?_ | refine AW.block ?_ | refine blockQ_n ?_ | refine blockQ_r ?_ | refine blockQ_e ?_ | refine blockQ_o rfl ?_)
      exact ⟨(), trivial, by simp [Try.f50]⟩
    · simp only [if_true] at r1
      subst r1
      refine CallX.mk' ⟨by simp [*], by simp [*], by simp [*], by simp [*], by simp [*]⟩ (by simp [*]; rfl) ?_
      repeat' (first | with_reducible refine OutOK.done ?_ | refine thenQ_n ?_ | refine thenQ_r ?_ | refine thenQ_e ?_ | refine AW.seq ?_ | refine AW.dreg tok mixed [4]  [(0, false), (1, false), (2, false), (3, false), (4, true), (5, false), (6, false)] (by decide +kernel) rfl (by simp [*]; rfl) ?_ | refine AW.reg tok (by simp [*]; rfl) ?_ | refine AW.ifB (by simp [*]; rfl) ?_ | refine IfG.t ?_ | refine IfG.f ?_ | ((first | refine IfG.p (fun hg => ?_) (fun hg => ?_) | refine IfG.n (fun hg => ?_) (fun hg => ?_) | refine OutOK.gateP (fun hg => ?_) (fun hg => ?_) | refine OutOK.gateN (fun hg => ?_) (fun hg => ?_) | refine IfG.g (fun hg => ?_) (fun hg => ?_) | refine OutOK.gate (fun hg => ?_) (fun hg => ?_)) <;> (try (have hg' := hg; simp at hg'))) | (refine OutOK.callF [] (by simp [*]; rfl) (by simp [*]; rfl) (by simp [*]; rfl) hb26 (by apply cg <;> first | assumption | exact Hd.out (by assumption) | ((try clear e2); omega)) ⟨by simp [*], by simp [*], by simp [*], by simp [*], by simp [*]⟩ (by simp [*]) (by simp [*]; rfl) ?_) | refine OutOK.run (by simp [*]; rfl) ?_ | refine AW.ret ?_ | refine AW.skip ?_ | refine AW.exit ?_ | refine fin_r ?_ | refine fin_n ?_ | refine AW.block ?_ | refine blockQ_n ?_ | refine blockQ_r ?_ | refine blockQ_e ?_ | refine blockQ_o rfl ?_)
      exact ⟨(), trivial, by simp [Try.f50]⟩
end Go.Proofs.Ytbofobjofngoeaa.EngS


set_option linter.unusedSimpArgs false
set_option linter.unusedVariables false
set_option maxHeartbeats 4000000
set_option maxRecDepth 100000
namespace Go.Proofs.Ytbofobjofngoeaa.EngS
open Go Go.Proofs Go.Eng Go.RowKit
end Go.Proofs.Ytbofobjofngoeaa.EngS


set_option linter.unusedSimpArgs false
set_option linter.unusedVariables false
set_option maxHeartbeats 4000000
set_option maxRecDepth 100000
namespace Go.Proofs.Ytbofobjofngoeaa.EngS
open Go Go.Proofs Go.Eng Go.RowKit
def maxL (xs ys : List Int) : List Int := List.zipWith max xs ys
def mxI (xs ys : List Int) (i : Nat) : List Int := (maxL xs ys).take i ++ xs.drop i
theorem maxL_len {xs ys : List Int} (h : xs.length = ys.length) : (maxL xs ys).length = xs.length := by simp [maxL, h]
theorem mxI_len {xs ys : List Int} {i : Nat} (h : xs.length = ys.length) (hi : i ≤ xs.length) : (mxI xs ys i).length = xs.length := by
  simp [mxI, maxL, h] at *; omega
theorem mxI_zero (xs ys : List Int) : mxI xs ys 0 = xs := by simp [mxI]
theorem mxI_all {xs ys : List Int} (h : xs.length = ys.length) : mxI xs ys xs.length = maxL xs ys := by
  rw [mxI, List.drop_length, List.append_nil, List.take_of_length_le (by rw [maxL_len h]; exact Nat.le_refl _)]
theorem mxI_at {xs ys : List Int} {i : Nat} (h : xs.length = ys.length) (hi : i < xs.length) (h2 : i < (mxI xs ys i).length) : (mxI xs ys i)[i] = xs[i] := by
  have hl : ((maxL xs ys).take i).length = i := by rw [List.length_take, maxL_len h]; omega
  simp only [mxI]
  rw [List.getElem_append_right (by omega)]
  simp [hl]
theorem mxI_step {xs ys : List Int} {i : Nat} (h : xs.length = ys.length) (hi : i < xs.length) (hy : i < ys.length) : (mxI xs ys i).set i (max xs[i] ys[i]) = mxI xs ys (i + 1) := by
  have hl : ((maxL xs ys).take i).length = i := by rw [List.length_take, maxL_len h]; omega
  have hm : i < (maxL xs ys).length := by rw [maxL_len h]; exact hi
  have hmi : (maxL xs ys)[i] = max xs[i] ys[i] := by simp [maxL]
  rw [mxI, mxI, List.set_append_right _ _ (by omega), hl, Nat.sub_self, List.drop_eq_getElem_cons hi, List.set_cons_zero, List.take_succ_eq_append_getElem hm, hmi, List.append_assoc, List.singleton_append]
theorem c_spec_l22Join (xs ys : List Int) (h : xs.length = ys.length) (h' : xs.length ≤ 1048576) : ACall Try.prog 133 [.v (.sl true 1 (ints xs)), .v (.sl true 1 (ints ys))] [.x, .x] [.v (.sl false 1 (ints (maxL xs ys)))] := by
  have co := c_spec_l1Own xs h'
  have hh : Hd _ := h
  clear h
  refine ACall.of (N := 28) tok Try.func133 rfl rfl rfl (by simp) ?_
  repeat' (first | with_reducible refine OutOK.done ?_ | refine thenQ_n ?_ | refine thenQ_r ?_ | refine thenQ_e ?_ | refine AW.seq ?_ | refine AW.dreg tok mixed [9]  [(0, false), (1, false), (2, false), (3, false), (4, false), (6, false), (7, false), (8, false), (5, false), (9, true), (10, false), (11, false), (12, false)] (by decide +kernel) rfl (by simp [*]; rfl) ?_ | refine AW.reg tok (by simp [*]; rfl) ?_ | refine AW.ifB (by simp [*]; rfl) ?_ | refine IfG.t ?_ | refine IfG.f ?_ | ((first | refine IfG.p (fun hg => ?_) (fun hg => ?_) | refine IfG.n (fun hg => ?_) (fun hg => ?_) | refine OutOK.gateP (fun hg => ?_) (fun hg => ?_) | refine OutOK.gateN (fun hg => ?_) (fun hg => ?_) | refine IfG.g (fun hg => ?_) (fun hg => ?_) | refine OutOK.gate (fun hg => ?_) (fun hg => ?_)) <;> (try (have hg' := hg; simp at hg'))) | (refine OutOK.callF [] (by simp [*]; rfl) (by simp [*]; rfl) (by simp [*]; rfl) hb123 (by apply co <;> first | assumption | exact Hd.out (by assumption) | ((try clear e1); omega)) ⟨by simp [*], by simp [*], by simp [*], by simp [*], by simp [*]⟩ (by simp [*]) (by simp [*]; rfl) ?_) | refine OutOK.run (by simp [*]; rfl) ?_ | refine AW.ret ?_ | refine AW.skip ?_ | refine AW.exit ?_ | refine fin_r ?_ | refine fin_n ?_ | refine AW.block ?_ | refine blockQ_n ?_ | refine blockQ_r ?_ | refine blockQ_e ?_ | refine blockQ_o rfl ?_)
  clear co
  refine AW.loopL (fun i => i ≤ xs.length) (fun i => [(1, .c (.sl true 1 (ints ys))), (5, .rf 8000 []), (6, .c (.sc (.int .i64 (i : Int))))]) (fun i => [(8000, .sv (.sl false 1 (ints (mxI xs ys i))))]) (fun i => xs.length - i) 0 (Nat.zero_le _) ⟨by simp, by simp [mxI_zero], by simp⟩ ?_
  intro i hi
  have hml := mxI_len hh.out hi
  rcases Nat.lt_or_ge i xs.length with hl | hl
  · have e1 : wrap64 ((i : Int) + 1) = ((i + 1 : Nat) : Int) := by rw [w64 (by omega) (by omega)]; omega
    have hly : i < ys.length := by have := hh.out; omega
    have hli : i < (mxI xs ys i).length := by rw [hml]; exact hl
    have ha := mxI_at hh.out hl hli
    have hs : Hd _ := mxI_step hh.out hl hly
    have cm := c_spec_l1Most xs[i] ys[i]
    generalize max xs[i] ys[i] = M at *
    generalize hq : mxI xs ys (i + 1) = m2 at *
    replace hq : Hd _ := hq
    generalize mxI xs ys i = m1 at *
    replace hml : Hd _ := hml
    repeat' (first | with_reducible refine OutOK.done ?_ | refine thenQ_n ?_ | refine thenQ_r ?_ | refine thenQ_e ?_ | refine AW.seq ?_ | refine AW.dreg tok mixed [9]  [(0, false), (1, false), (2, false), (3, false), (4, false), (6, false), (7, false), (8, false), (5, false), (9, true), (10, false), (11, false), (12, false)] (by decide +kernel) rfl (by simp [*]; rfl) ?_ | refine AW.reg tok (by simp [*]; rfl) ?_ | refine AW.ifB (by simp [*]; rfl) ?_ | refine IfG.t ?_ | refine IfG.f ?_ | ((first | refine IfG.p (fun hg => ?_) (fun hg => ?_) | refine IfG.n (fun hg => ?_) (fun hg => ?_) | refine OutOK.gateP (fun hg => ?_) (fun hg => ?_) | refine OutOK.gateN (fun hg => ?_) (fun hg => ?_) | refine IfG.g (fun hg => ?_) (fun hg => ?_) | refine OutOK.gate (fun hg => ?_) (fun hg => ?_)) <;> (try (have hg' := hg; simp at hg'))) | (refine OutOK.callF [] (by simp [*]; rfl) (by simp [*]; rfl) (by simp [*]; rfl) hb161 (by apply cm <;> first | assumption | exact Hd.out (by assumption) | ((try clear e1); omega)) ⟨by simp [*], by simp [*], by simp [*], by simp [*], by simp [*]⟩ (by simp [*]) (by simp [*]; rfl) ?_) | refine OutOK.run (by simp [*]; rfl) ?_ | refine AW.ret ?_ | refine AW.skip ?_ | refine AW.exit ?_ | refine fin_r ?_ | refine fin_n ?_ | refine AW.block ?_ | refine blockQ_n ?_ | refine blockQ_r ?_ | refine blockQ_e ?_ | refine blockQ_o rfl ?_)
    exact ⟨i + 1, hl, ⟨by simp, by simp [hs.out, hq.out], by simp⟩, by ((try clear e1); omega)⟩
  · have hii : i = xs.length := by omega
    subst hii
    rw [mxI_all hh.out] at hml ⊢
    generalize maxL xs ys = m1 at *
    have hn : ¬ xs.length < m1.length := by omega
    replace hml : Hd _ := hml
    repeat' (first | with_reducible refine OutOK.done ?_ | refine thenQ_n ?_ | refine thenQ_r ?_ | refine thenQ_e ?_ | refine AW.seq ?_ | refine AW.dreg tok mixed [9]  [(0, false), (1, false), (2, false), (3, false), (4, false), (6, false), (7, false), (8, false), (5, false), (9, true), (10, false), (11, false), (12, false)] (by decide +kernel) rfl (by simp [*]; rfl) ?_ | refine AW.reg tok (by simp [*]; rfl) ?_ | refine AW.ifB (by simp [*]; rfl) ?_ | refine IfG.t ?_ | refine IfG.f ?_ | ((first | refine IfG.p (fun hg => ?_) (fun hg => ?_) | refine IfG.n (fun hg => ?_) (fun hg => ?_) | refine OutOK.gateP (fun hg => ?_) (fun hg => ?_) | refine OutOK.gateN (fun hg => ?_) (fun hg => ?_) | refine IfG.g (fun hg => ?_) (fun hg => ?_) | refine OutOK.gate (fun hg => ?_) (fun hg => ?_)) <;> (try (have hg' := hg; simp at hg'))) | refine OutOK.run (by simp [*]; rfl) ?_ | refine AW.ret ?_ | refine AW.skip ?_ | refine AW.exit ?_ | refine fin_r ?_ | refine fin_n ?_ | refine AW.block ?_ | refine blockQ_n ?_ | refine blockQ_r ?_ | refine blockQ_e ?_ | refine blockQ_o rfl ?_)
    simp [Try.f133]
end Go.Proofs.Ytbofobjofngoeaa.EngS


set_option linter.unusedSimpArgs false
set_option linter.unusedVariables false
set_option maxHeartbeats 4000000
set_option maxRecDepth 100000
namespace Go.Proofs.Ytbofobjofngoeaa.EngS
open Go Go.Proofs Go.Eng Go.RowKit
def lrnL (l : List Edt) (t n : Int) (ck : List Int) : List Int := if fndE l t n < 0 then ck else maxL ck (l[(fndE l t n).toNat]?.getD default).ck
end Go.Proofs.Ytbofobjofngoeaa.EngS


set_option linter.unusedSimpArgs false
set_option linter.unusedVariables false
set_option maxHeartbeats 4000000
set_option maxRecDepth 100000
namespace Go.Proofs.Ytbofobjofngoeaa.EngS
open Go Go.Proofs Go.Eng Go.RowKit
def cI (l : List Edt) (c0 seen : List Int) : Nat → List Int
  | 0 => c0
  | i + 1 => lrnL l (i : Int) (seen[i]?.getD 0) (cI l c0 seen i)
theorem lrnL_len {l : List Edt} {t n : Int} {ck : List Int} (hl : ∀ e ∈ l, e.ck.length = ck.length) : (lrnL l t n ck).length = ck.length := by
  have hfc := idx_cases (keyE t n) l
  rw [show idx (keyE t n) l = fndE l t n from rfl] at hfc
  unfold lrnL
  rcases hfc with hf | ⟨k, hf, hk⟩
  · rw [if_pos hf]
  · rw [if_neg (by omega), hf]
    simp only [Int.toNat_natCast, List.getElem?_eq_getElem hk, Option.getD_some]
    exact maxL_len (hl l[k] (List.getElem_mem hk)).symm
theorem cI_len {l : List Edt} {c0 seen : List Int} (hl : ∀ e ∈ l, e.ck.length = c0.length) : ∀ i, (cI l c0 seen i).length = c0.length
  | 0 => rfl
  | i + 1 => by rw [cI, lrnL_len (fun e he => by rw [hl e he, cI_len hl i]), cI_len hl i]
def mkN (l : List Edt) (N T : Nat) (seen : List Int) (item text : ByteArray) : Edt :=
  ⟨T, ((cntE l (T : Int) + 1 : Nat) : Int), (cI l (lrnL l (T : Int) ((cntE l (T : Int) : Nat) : Int) (List.replicate N 0)) seen N).set T ((cntE l (T : Int) + 1 : Nat) : Int), item, text⟩
theorem c_spec_l22Make (l : List Edt) (N T : Nat) (seen : List Int) (item text : ByteArray) (h : l.length ≤ 24) (hN : N ≤ 3) (hT : T < N) (hs : seen.length = N) (hl : ∀ e ∈ l, e.ck.length = N) (hc : cntE l (T : Int) ≤ 24) :
    ACall Try.prog 103 [.v (.sl true 5 (edts true l)), int (N : Int), int (T : Int), .v (.sl true 1 (ints seen)), .v (.sc (.string item)), .v (.sc (.string text))] [.x, .x, .x, .x, .x, .x] [edtO (mkN l N T seen item text)] := by
  have ct := c_spec_l22Total l (T : Int) (by omega)
  have cf := c_spec_l22Find l (T : Int) ((cntE l (T : Int) : Nat) : Int) (by omega)
  unfold mkN
  obtain ⟨c, hcc⟩ : ∃ c, cntE l (T : Int) = c := ⟨_, rfl⟩
  rw [hcc] at ct cf hc ⊢
  clear hcc
  obtain ⟨c0, hc0⟩ : ∃ c0, lrnL l (T : Int) (c : Int) (List.replicate N 0) = c0 := ⟨_, rfl⟩
  have hc0l : c0.length = N := by rw [← hc0, lrnL_len (fun e he => by rw [hl e he]; simp)]; simp
  have hlen : Hd (∀ i, (cI l c0 seen i).length = N) := fun i => by rw [cI_len (fun e he => by rw [hl e he, hc0l]) i, hc0l]
  have hfin : Hd ((cI l c0 seen N).length = N) := hlen.out N
  rw [hc0]
  have hl' : Hd _ := hl
  have h8 : (N : Int) * 8 ≤ 140737488355328 := by omega
  have h9 : (N : Int) ≤ 4611686018427387904 := by omega
  have hN0 : 0 ≤ (N : Int) := by omega
  have hs' : Hd _ := hs
  have hfc := idx_cases (keyE (T : Int) (c : Int)) l
  rw [show idx (keyE (T : Int) (c : Int)) l = fndE l (T : Int) (c : Int) from rfl] at hfc
  have hcu := hc0
  unfold lrnL at hcu
  generalize fndE l (T : Int) (c : Int) = F at *
  clear hl hs hc0
  replace hc0l : Hd _ := hc0l
  rcases hfc with hf | ⟨k, rfl, hk⟩
  · rw [if_pos hf] at hcu
    have hcu' : Hd _ := hcu
    clear hcu
    have hf' : ¬ 0 ≤ F := by omega
    refine ACall.of (N := 71) tok Try.func103 rfl rfl rfl (by simp) ?_
    repeat' (first | with_reducible refine OutOK.done ?_ | refine thenQ_n ?_ | refine thenQ_r ?_ | refine thenQ_e ?_ | refine AW.seq ?_ | refine AW.reg tok (by simp [*]; rfl) ?_ | refine AW.ifB (by simp [*]; rfl) ?_ | refine IfG.t ?_ | refine IfG.f ?_ | ((first | refine IfG.p (fun hg => ?_) (fun hg => ?_) | refine IfG.n (fun hg => ?_) (fun hg => ?_) | refine OutOK.gateP (fun hg => ?_) (fun hg => ?_) | refine OutOK.gateN (fun hg => ?_) (fun hg => ?_) | refine IfG.g (fun hg => ?_) (fun hg => ?_) | refine OutOK.gate (fun hg => ?_) (fun hg => ?_)) <;> (try (have hg' := hg; simp at hg'))) | (refine OutOK.callF [] (by simp [*]; rfl) (by simp [*]; rfl) (by simp [*]; rfl) hb90 (by apply ct <;> first | assumption | exact Hd.out (by assumption) | ((try clear e1); (try clear e4); omega)) ⟨by simp [*], by simp [*], by simp [*], by simp [*], by simp [*]⟩ (by simp [*]) (by simp [*]; rfl) ?_) | (refine OutOK.callF [] (by simp [*]; rfl) (by simp [*]; rfl) (by simp [*]; rfl) hb89 (by apply cf <;> first | assumption | exact Hd.out (by assumption) | ((try clear e1); (try clear e4); omega)) ⟨by simp [*], by simp [*], by simp [*], by simp [*], by simp [*]⟩ (by simp [*]) (by simp [*]; rfl) ?_) | refine OutOK.run (by simp [*]; rfl) ?_ | refine AW.ret ?_ | refine AW.skip ?_ | refine AW.exit ?_ | refine fin_r ?_ | refine fin_n ?_ | refine AW.block ?_ | refine blockQ_n ?_ | refine blockQ_r ?_ | refine blockQ_e ?_ | refine blockQ_o rfl ?_)
    have hst : Hd (List.replicate N 0 = c0) := hcu'.out
    clear hcu' hf hf' cf
    refine AW.loopS (α := Nat) (fun i => i ≤ N) (fun i => [(0, .c (.sl true 5 (edts true l))), (1, .c (.sc (.int .i64 (N : Int)))), (2, .c (.sc (.int .i64 (T : Int)))), (3, .c (.sl true 1 (ints seen))), (4, .c (.sc (.string item))), (5, .c (.sc (.string text))), (12, .pt 12000 [] 0), (13, .rf 18000 []), (15, .c (.sc (.int .i64 (i : Int))))])
      (fun i => [(12000, .bx [.sc (.int .i64 0), .sc (.int .i64 0), .sl false 1 [], .sc (.string ⟨#[]⟩), .sc (.string ⟨#[]⟩)]), (18000, .sv (.sl false 1 (ints (cI l c0 seen i))))]) (fun i => N - i) 0 (Nat.zero_le _) [] (by simp) ⟨by simp, by simp [cI, hst.out], by simp⟩ ?_
    clear hst
    intro i hi
    rcases Nat.lt_or_ge i N with hiN | hiN
    · have e1 : wrap64 ((i : Int) + 1) = ((i + 1 : Nat) : Int) := by rw [w64 (by omega) (by omega)]; omega
      have hsi : i < seen.length := by have := hs'.out; omega
      have cf2 := c_spec_l22Find l (i : Int) seen[i] (by omega)
      have hstep : cI l c0 seen (i + 1) = lrnL l (i : Int) seen[i] (cI l c0 seen i) := by rw [cI, List.getElem?_eq_getElem hsi, Option.getD_some]
      have hli := hlen.out i
      have hfc := idx_cases (keyE (i : Int) seen[i]) l
      rw [show idx (keyE (i : Int) seen[i]) l = fndE l (i : Int) seen[i] from rfl] at hfc
      unfold lrnL at hstep
      generalize fndE l (i : Int) seen[i] = G at *
      generalize cI l c0 seen i = ci at *
      rcases hfc with hg2 | ⟨j, rfl, hj⟩
      · rw [if_pos hg2] at hstep
        have hg' : ¬ 0 ≤ G := by omega
        replace hstep : Hd _ := hstep
        replace hli : Hd _ := hli
        repeat' (first | with_reducible refine OutOK.done ?_ | refine thenQ_n ?_ | refine thenQ_r ?_ | refine thenQ_e ?_ | refine AW.seq ?_ | refine AW.reg tok (by simp [*]; rfl) ?_ | refine AW.ifB (by simp [*]; rfl) ?_ | refine IfG.t ?_ | refine IfG.f ?_ | ((first | refine IfG.p (fun hg => ?_) (fun hg => ?_) | refine IfG.n (fun hg => ?_) (fun hg => ?_) | refine OutOK.gateP (fun hg => ?_) (fun hg => ?_) | refine OutOK.gateN (fun hg => ?_) (fun hg => ?_) | refine IfG.g (fun hg => ?_) (fun hg => ?_) | refine OutOK.gate (fun hg => ?_) (fun hg => ?_)) <;> (try (have hg' := hg; simp at hg'))) | (refine OutOK.callF [] (by simp [*]; rfl) (by simp [*]; rfl) (by simp [*]; rfl) hb89 (by apply cf2 <;> first | assumption | exact Hd.out (by assumption) | ((try clear e1); (try clear e4); omega)) ⟨by simp [*], by simp [*], by simp [*], by simp [*], by simp [*]⟩ (by simp [*]) (by simp [*]; rfl) ?_) | refine OutOK.run (by simp [*]; rfl) ?_ | refine AW.ret ?_ | refine AW.skip ?_ | refine AW.exit ?_ | refine fin_r ?_ | refine fin_n ?_ | refine AW.block ?_ | refine blockQ_n ?_ | refine blockQ_r ?_ | refine blockQ_e ?_ | refine blockQ_o rfl ?_)
        exact ⟨i + 1, hiN, ⟨[], by simp, by simp, by simp [hstep.out], by simp⟩, by ((try clear e1); (try clear e4); omega)⟩
      · rw [if_neg (by omega)] at hstep
        simp only [Int.toNat_natCast, List.getElem?_eq_getElem hj, Option.getD_some] at hstep
        have hjl := hl'.out l[j] (List.getElem_mem hj)
        obtain ⟨tm2, ct8, zs, it2, tx2, he2⟩ : ∃ tm ct ck it tx, l[j] = ⟨tm, ct, ck, it, tx⟩ := ⟨_, _, _, _, _, rfl⟩
        rw [he2] at hstep hjl
        simp only at hstep hjl
        have cj2 := c_spec_l22Join ci zs (by omega) (by omega)
        rw [← hstep] at cj2
        have hj0 : 0 ≤ (j : Int) := by omega
        replace hli : Hd _ := hli
        replace hjl : Hd _ := hjl
        clear hstep
        obtain ⟨ci2, hq2⟩ : ∃ q, Hd (cI l c0 seen (i + 1) = q) := ⟨_, rfl⟩
        rw [hq2.out] at cj2
        repeat' (first | with_reducible refine OutOK.done ?_ | refine thenQ_n ?_ | refine thenQ_r ?_ | refine thenQ_e ?_ | refine AW.seq ?_ | refine AW.reg tok (by simp [*]; rfl) ?_ | refine AW.ifB (by simp [*]; rfl) ?_ | refine IfG.t ?_ | refine IfG.f ?_ | ((first | refine IfG.p (fun hg => ?_) (fun hg => ?_) | refine IfG.n (fun hg => ?_) (fun hg => ?_) | refine OutOK.gateP (fun hg => ?_) (fun hg => ?_) | refine OutOK.gateN (fun hg => ?_) (fun hg => ?_) | refine IfG.g (fun hg => ?_) (fun hg => ?_) | refine OutOK.gate (fun hg => ?_) (fun hg => ?_)) <;> (try (have hg' := hg; simp at hg'))) | (refine OutOK.callF [] (by simp [*]; rfl) (by simp [*]; rfl) (by simp [*]; rfl) hb89 (by apply cf2 <;> first | assumption | exact Hd.out (by assumption) | ((try clear e1); (try clear e4); omega)) ⟨by simp [*], by simp [*], by simp [*], by simp [*], by simp [*]⟩ (by simp [*]) (by simp [*]; rfl) ?_) | (refine OutOK.callF [] (by simp [*]; rfl) (by simp [*]; rfl) (by simp [*]; rfl) hb133 (by apply cj2 <;> first | assumption | exact Hd.out (by assumption) | ((try clear e1); (try clear e4); omega)) ⟨by simp [*], by simp [*], by simp [*], by simp [*], by simp [*]⟩ (by simp [*]) (by simp [*]; rfl) ?_) | refine OutOK.run (by simp [*]; rfl) ?_ | refine AW.ret ?_ | refine AW.skip ?_ | refine AW.exit ?_ | refine fin_r ?_ | refine fin_n ?_ | refine AW.block ?_ | refine blockQ_n ?_ | refine blockQ_r ?_ | refine blockQ_e ?_ | refine blockQ_o rfl ?_)
        exact ⟨i + 1, hiN, ⟨[(54000, 18000)], by simp, by simp, by simp [hq2.out], by simp⟩, by ((try clear e1); (try clear e4); omega)⟩
    · have hii : i = N := by omega
      subst hii
      have hfi := hfin.out
      generalize cI l c0 seen i = ci at *
      have hTc : T < ci.length := by omega
      replace hfi : Hd _ := hfi
      have e4 : wrap64 ((c : Int) + 1) = ((c + 1 : Nat) : Int) := by rw [w64 (by omega) (by omega)]; omega
      repeat' (first | with_reducible refine OutOK.done ?_ | refine thenQ_n ?_ | refine thenQ_r ?_ | refine thenQ_e ?_ | refine AW.seq ?_ | refine AW.reg tok (by simp [*]; rfl) ?_ | refine AW.ifB (by simp [*]; rfl) ?_ | refine IfG.t ?_ | refine IfG.f ?_ | ((first | refine IfG.p (fun hg => ?_) (fun hg => ?_) | refine IfG.n (fun hg => ?_) (fun hg => ?_) | refine OutOK.gateP (fun hg => ?_) (fun hg => ?_) | refine OutOK.gateN (fun hg => ?_) (fun hg => ?_) | refine IfG.g (fun hg => ?_) (fun hg => ?_) | refine OutOK.gate (fun hg => ?_) (fun hg => ?_)) <;> (try (have hg' := hg; simp at hg'))) | (refine OutOK.callF [] (by simp [*]; rfl) (by simp [*]; rfl) (by simp [*]; rfl) hb90 (by apply ct <;> first | assumption | exact Hd.out (by assumption) | ((try clear e1); (try clear e4); omega)) ⟨by simp [*], by simp [*], by simp [*], by simp [*], by simp [*]⟩ (by simp [*]) (by simp [*]; rfl) ?_) | refine OutOK.run (by simp [*]; rfl) ?_ | refine AW.ret ?_ | refine AW.skip ?_ | refine AW.exit ?_ | refine fin_r ?_ | refine fin_n ?_ | refine AW.block ?_ | refine blockQ_n ?_ | refine blockQ_r ?_ | refine blockQ_e ?_ | refine blockQ_o rfl ?_)
      simp [Try.f103]
  · rw [if_neg (by omega)] at hcu
    simp only [Int.toNat_natCast, List.getElem?_eq_getElem hk, Option.getD_some] at hcu
    have hkl := hl'.out l[k] (List.getElem_mem hk)
    obtain ⟨tm, ct9, ys, it, tx, he⟩ : ∃ tm ct ck it tx, l[k] = ⟨tm, ct, ck, it, tx⟩ := ⟨_, _, _, _, _, rfl⟩
    rw [he] at hcu hkl
    have cj := c_spec_l22Join (List.replicate N 0) ys (by simp; exact hkl.symm) (by simp; omega)
    simp only at hcu
    rw [hcu] at cj
    have hk0 : 0 ≤ (k : Int) := by omega
    replace hkl : Hd _ := hkl
    clear hcu
    refine ACall.of (N := 71) tok Try.func103 rfl rfl rfl (by simp) ?_
    repeat' (first | with_reducible refine OutOK.done ?_ | refine thenQ_n ?_ | refine thenQ_r ?_ | refine thenQ_e ?_ | refine AW.seq ?_ | refine AW.reg tok (by simp [*]; rfl) ?_ | refine AW.ifB (by simp [*]; rfl) ?_ | refine IfG.t ?_ | refine IfG.f ?_ | ((first | refine IfG.p (fun hg => ?_) (fun hg => ?_) | refine IfG.n (fun hg => ?_) (fun hg => ?_) | refine OutOK.gateP (fun hg => ?_) (fun hg => ?_) | refine OutOK.gateN (fun hg => ?_) (fun hg => ?_) | refine IfG.g (fun hg => ?_) (fun hg => ?_) | refine OutOK.gate (fun hg => ?_) (fun hg => ?_)) <;> (try (have hg' := hg; simp at hg'))) | (refine OutOK.callF [] (by simp [*]; rfl) (by simp [*]; rfl) (by simp [*]; rfl) hb90 (by apply ct <;> first | assumption | exact Hd.out (by assumption) | ((try clear e1); (try clear e4); omega)) ⟨by simp [*], by simp [*], by simp [*], by simp [*], by simp [*]⟩ (by simp [*]) (by simp [*]; rfl) ?_) | (refine OutOK.callF [] (by simp [*]; rfl) (by simp [*]; rfl) (by simp [*]; rfl) hb89 (by apply cf <;> first | assumption | exact Hd.out (by assumption) | ((try clear e1); (try clear e4); omega)) ⟨by simp [*], by simp [*], by simp [*], by simp [*], by simp [*]⟩ (by simp [*]) (by simp [*]; rfl) ?_) | (refine OutOK.callF [] (by simp [*]; rfl) (by simp [*]; rfl) (by simp [*]; rfl) hb133 (by apply cj <;> first | assumption | exact Hd.out (by assumption) | ((try clear e1); (try clear e4); omega)) ⟨by simp [*], by simp [*], by simp [*], by simp [*], by simp [*]⟩ (by simp [*]) (by simp [*]; rfl) ?_) | refine OutOK.run (by simp [*]; rfl) ?_ | refine AW.ret ?_ | refine AW.skip ?_ | refine AW.exit ?_ | refine fin_r ?_ | refine fin_n ?_ | refine AW.block ?_ | refine blockQ_n ?_ | refine blockQ_r ?_ | refine blockQ_e ?_ | refine blockQ_o rfl ?_)
    have hst : Hd True := trivial
    clear hk0 cj cf he hkl
    refine AW.loopS (α := Nat) (fun i => i ≤ N) (fun i => [(0, .c (.sl true 5 (edts true l))), (1, .c (.sc (.int .i64 (N : Int)))), (2, .c (.sc (.int .i64 (T : Int)))), (3, .c (.sl true 1 (ints seen))), (4, .c (.sc (.string item))), (5, .c (.sc (.string text))), (12, .pt 12000 [] 0), (13, .rf 18000 []), (15, .c (.sc (.int .i64 (i : Int))))])
      (fun i => [(12000, .bx [.sc (.int .i64 0), .sc (.int .i64 0), .sl false 1 [], .sc (.string ⟨#[]⟩), .sc (.string ⟨#[]⟩)]), (18000, .sv (.sl false 1 (ints (cI l c0 seen i))))]) (fun i => N - i) 0 (Nat.zero_le _) [(33000, 18000)] (by simp) ⟨by simp, by simp [cI, hst.out], by simp⟩ ?_
    clear hst
    intro i hi
    rcases Nat.lt_or_ge i N with hiN | hiN
    · have e1 : wrap64 ((i : Int) + 1) = ((i + 1 : Nat) : Int) := by rw [w64 (by omega) (by omega)]; omega
      have hsi : i < seen.length := by have := hs'.out; omega
      have cf2 := c_spec_l22Find l (i : Int) seen[i] (by omega)
      have hstep : cI l c0 seen (i + 1) = lrnL l (i : Int) seen[i] (cI l c0 seen i) := by rw [cI, List.getElem?_eq_getElem hsi, Option.getD_some]
      have hli := hlen.out i
      have hfc := idx_cases (keyE (i : Int) seen[i]) l
      rw [show idx (keyE (i : Int) seen[i]) l = fndE l (i : Int) seen[i] from rfl] at hfc
      unfold lrnL at hstep
      generalize fndE l (i : Int) seen[i] = G at *
      generalize cI l c0 seen i = ci at *
      rcases hfc with hg2 | ⟨j, rfl, hj⟩
      · rw [if_pos hg2] at hstep
        have hg' : ¬ 0 ≤ G := by omega
        replace hstep : Hd _ := hstep
        replace hli : Hd _ := hli
        repeat' (first | with_reducible refine OutOK.done ?_ | refine thenQ_n ?_ | refine thenQ_r ?_ | refine thenQ_e ?_ | refine AW.seq ?_ | refine AW.reg tok (by simp [*]; rfl) ?_ | refine AW.ifB (by simp [*]; rfl) ?_ | refine IfG.t ?_ | refine IfG.f ?_ | ((first | refine IfG.p (fun hg => ?_) (fun hg => ?_) | refine IfG.n (fun hg => ?_) (fun hg => ?_) | refine OutOK.gateP (fun hg => ?_) (fun hg => ?_) | refine OutOK.gateN (fun hg => ?_) (fun hg => ?_) | refine IfG.g (fun hg => ?_) (fun hg => ?_) | refine OutOK.gate (fun hg => ?_) (fun hg => ?_)) <;> (try (have hg' := hg; simp at hg'))) | (refine OutOK.callF [] (by simp [*]; rfl) (by simp [*]; rfl) (by simp [*]; rfl) hb89 (by apply cf2 <;> first | assumption | exact Hd.out (by assumption) | ((try clear e1); (try clear e4); omega)) ⟨by simp [*], by simp [*], by simp [*], by simp [*], by simp [*]⟩ (by simp [*]) (by simp [*]; rfl) ?_) | refine OutOK.run (by simp [*]; rfl) ?_ | refine AW.ret ?_ | refine AW.skip ?_ | refine AW.exit ?_ | refine fin_r ?_ | refine fin_n ?_ | refine AW.block ?_ | refine blockQ_n ?_ | refine blockQ_r ?_ | refine blockQ_e ?_ | refine blockQ_o rfl ?_)
        exact ⟨i + 1, hiN, ⟨[], by simp, by simp, by simp [hstep.out], by simp⟩, by ((try clear e1); (try clear e4); omega)⟩
      · rw [if_neg (by omega)] at hstep
        simp only [Int.toNat_natCast, List.getElem?_eq_getElem hj, Option.getD_some] at hstep
        have hjl := hl'.out l[j] (List.getElem_mem hj)
        obtain ⟨tm2, ct8, zs, it2, tx2, he2⟩ : ∃ tm ct ck it tx, l[j] = ⟨tm, ct, ck, it, tx⟩ := ⟨_, _, _, _, _, rfl⟩
        rw [he2] at hstep hjl
        simp only at hstep hjl
        have cj2 := c_spec_l22Join ci zs (by omega) (by omega)
        rw [← hstep] at cj2
        have hj0 : 0 ≤ (j : Int) := by omega
        replace hli : Hd _ := hli
        replace hjl : Hd _ := hjl
        clear hstep
        obtain ⟨ci2, hq2⟩ : ∃ q, Hd (cI l c0 seen (i + 1) = q) := ⟨_, rfl⟩
        rw [hq2.out] at cj2
        repeat' (first | with_reducible refine OutOK.done ?_ | refine thenQ_n ?_ | refine thenQ_r ?_ | refine thenQ_e ?_ | refine AW.seq ?_ | refine AW.reg tok (by simp [*]; rfl) ?_ | refine AW.ifB (by simp [*]; rfl) ?_ | refine IfG.t ?_ | refine IfG.f ?_ | ((first | refine IfG.p (fun hg => ?_) (fun hg => ?_) | refine IfG.n (fun hg => ?_) (fun hg => ?_) | refine OutOK.gateP (fun hg => ?_) (fun hg => ?_) | refine OutOK.gateN (fun hg => ?_) (fun hg => ?_) | refine IfG.g (fun hg => ?_) (fun hg => ?_) | refine OutOK.gate (fun hg => ?_) (fun hg => ?_)) <;> (try (have hg' := hg; simp at hg'))) | (refine OutOK.callF [] (by simp [*]; rfl) (by simp [*]; rfl) (by simp [*]; rfl) hb89 (by apply cf2 <;> first | assumption | exact Hd.out (by assumption) | ((try clear e1); (try clear e4); omega)) ⟨by simp [*], by simp [*], by simp [*], by simp [*], by simp [*]⟩ (by simp [*]) (by simp [*]; rfl) ?_) | (refine OutOK.callF [] (by simp [*]; rfl) (by simp [*]; rfl) (by simp [*]; rfl) hb133 (by apply cj2 <;> first | assumption | exact Hd.out (by assumption) | ((try clear e1); (try clear e4); omega)) ⟨by simp [*], by simp [*], by simp [*], by simp [*], by simp [*]⟩ (by simp [*]) (by simp [*]; rfl) ?_) | refine OutOK.run (by simp [*]; rfl) ?_ | refine AW.ret ?_ | refine AW.skip ?_ | refine AW.exit ?_ | refine fin_r ?_ | refine fin_n ?_ | refine AW.block ?_ | refine blockQ_n ?_ | refine blockQ_r ?_ | refine blockQ_e ?_ | refine blockQ_o rfl ?_)
        exact ⟨i + 1, hiN, ⟨[(54000, 18000)], by simp, by simp, by simp [hq2.out], by simp⟩, by ((try clear e1); (try clear e4); omega)⟩
    · have hii : i = N := by omega
      subst hii
      have hfi := hfin.out
      generalize cI l c0 seen i = ci at *
      have hTc : T < ci.length := by omega
      replace hfi : Hd _ := hfi
      have e4 : wrap64 ((c : Int) + 1) = ((c + 1 : Nat) : Int) := by rw [w64 (by omega) (by omega)]; omega
      repeat' (first | with_reducible refine OutOK.done ?_ | refine thenQ_n ?_ | refine thenQ_r ?_ | refine thenQ_e ?_ | refine AW.seq ?_ | refine AW.reg tok (by simp [*]; rfl) ?_ | refine AW.ifB (by simp [*]; rfl) ?_ | refine IfG.t ?_ | refine IfG.f ?_ | ((first | refine IfG.p (fun hg => ?_) (fun hg => ?_) | refine IfG.n (fun hg => ?_) (fun hg => ?_) | refine OutOK.gateP (fun hg => ?_) (fun hg => ?_) | refine OutOK.gateN (fun hg => ?_) (fun hg => ?_) | refine IfG.g (fun hg => ?_) (fun hg => ?_) | refine OutOK.gate (fun hg => ?_) (fun hg => ?_)) <;> (try (have hg' := hg; simp at hg'))) | (refine OutOK.callF [] (by simp [*]; rfl) (by simp [*]; rfl) (by simp [*]; rfl) hb90 (by apply ct <;> first | assumption | exact Hd.out (by assumption) | ((try clear e1); (try clear e4); omega)) ⟨by simp [*], by simp [*], by simp [*], by simp [*], by simp [*]⟩ (by simp [*]) (by simp [*]; rfl) ?_) | refine OutOK.run (by simp [*]; rfl) ?_ | refine AW.ret ?_ | refine AW.skip ?_ | refine AW.exit ?_ | refine fin_r ?_ | refine fin_n ?_ | refine AW.block ?_ | refine blockQ_n ?_ | refine blockQ_r ?_ | refine blockQ_e ?_ | refine blockQ_o rfl ?_)
      simp [Try.f103]
end Go.Proofs.Ytbofobjofngoeaa.EngS


set_option linter.unusedSimpArgs false
set_option linter.unusedVariables false
set_option maxHeartbeats 4000000
set_option maxRecDepth 100000
namespace Go.Proofs.Ytbofobjofngoeaa.EngS
open Go Go.Proofs Go.Eng Go.RowKit
end Go.Proofs.Ytbofobjofngoeaa.EngS


set_option linter.unusedSimpArgs false
set_option linter.unusedVariables false
set_option maxHeartbeats 4000000
set_option maxRecDepth 100000
namespace Go.Proofs.Ytbofobjofngoeaa.EngS
open Go Go.Proofs Go.Eng Go.RowKit
theorem mkN_ck {l : List Edt} {N T : Nat} {seen : List Int} {item text : ByteArray} (hl : ∀ e ∈ l, e.ck.length = N) : (mkN l N T seen item text).ck.length = N := by
  have h0 : (lrnL l (T : Int) ((cntE l (T : Int) : Nat) : Int) (List.replicate N 0)).length = N := by rw [lrnL_len (fun e he => by rw [hl e he]; simp)]; simp
  simp only [mkN, List.length_set]
  rw [cI_len (fun e he => by rw [hl e he, h0]) N, h0]
end Go.Proofs.Ytbofobjofngoeaa.EngS


set_option linter.unusedSimpArgs false
set_option linter.unusedVariables false
set_option maxHeartbeats 4000000
set_option maxRecDepth 100000
namespace Go.Proofs.Ytbofobjofngoeaa.EngS
open Go Go.Proofs Go.Eng Go.RowKit
end Go.Proofs.Ytbofobjofngoeaa.EngS


set_option linter.unusedSimpArgs false
set_option linter.unusedVariables false
set_option maxHeartbeats 4000000
set_option maxRecDepth 10000
namespace Go.Proofs.Ytbofobjofngoeaa.EngS
open Go Go.Proofs Go.Eng Go.RowKit
def bys (xs : List Int) : List PV := xs.map fun x => .sc (.int .u8 x)
@[simp] theorem bys_len (xs) : (bys xs).length = xs.length := by simp [bys]
@[simp] theorem bys_get (xs : List Int) (i : Nat) : (bys xs)[i]? = (xs[i]?).map fun x => .sc (.int .u8 x) := by simp [bys]
@[simp] theorem bys_at (xs : List Int) (i : Nat) (h : i < (bys xs).length) : (bys xs)[i] = .sc (.int .u8 (xs[i]'(by simpa using h))) := by simp [bys]
@[simp] theorem bys_frz (xs) : PV.frzs (bys xs) = bys xs := by simp [bys]
abbrev curP (code : List Int) (a s : Int) : List PV := [.sl true 1 (bys code), .sc (.int .i64 a), .sc (.int .u64 s)]
def nxB (code : List Int) (a : Int) : Int := if a < (code.length : Int) then wrap64 (code[a.toNat]?.getD 0) else 0
def nxS (code : List Int) (a s : Int) : Int := IntKind.u64.wrap (IntKind.u64.wrap (IntKind.u64.wrap (s * 6364136223846793005) + IntKind.u64.wrap (nxB code a)) + 876876)
def nxV (code : List Int) (a s : Int) : Int := if a + 1 ≤ (code.length : Int) then nxB code a else wrap64 (IntKind.u64.wrap (((((nxS code a s).fdiv (2 ^ min 40 IntKind.u64.bits) % 2 ^ IntKind.u64.bits).toNat &&& 255 % 2 ^ IntKind.u64.bits : Nat)) : Int))
theorem u64_small (n : Nat) (h : n ≤ 255) : wrap64 (IntKind.u64.wrap (n : Int)) = (n : Int) := by
  have : IntKind.u64.wrap (n : Int) = (n : Int) := by
    simp [IntKind.wrap, IntKind.signed, IntKind.bits]
    omega
  rw [this]
  exact w64 (by omega) (by omega)
def BytesOK (code : List Int) : Prop := ∀ x ∈ code, 0 ≤ x ∧ x ≤ 255
theorem nxB_le {code : List Int} (hb : BytesOK code) (a : Int) (h0 : 0 ≤ a) : 0 ≤ nxB code a ∧ nxB code a ≤ 255 := by
  unfold nxB
  split
  · have hl : a.toNat < code.length := by omega
    rw [List.getElem?_eq_getElem hl]
    have := hb code[a.toNat] (List.getElem_mem hl)
    simp only [Option.getD_some]
    rw [w64 (by omega) (by omega)]
    exact this
  · omega
theorem nxV_le {code : List Int} (hb : BytesOK code) (a s : Int) (h0 : 0 ≤ a) : 0 ≤ nxV code a s ∧ nxV code a s ≤ 255 := by
  unfold nxV
  split
  · exact nxB_le hb a h0
  · have h := Nat.and_le_right (n := ((nxS code a s).fdiv (2 ^ min 40 IntKind.u64.bits) % 2 ^ IntKind.u64.bits).toNat) (m := 255 % 2 ^ IntKind.u64.bits)
    have h2 : 255 % 2 ^ IntKind.u64.bits = 255 := by decide
    rw [h2] at h ⊢
    rw [u64_small _ h]
    omega
theorem c_spec_l1Cur_next (code : List Int) (a s : Int) (h0 : 0 ≤ a) (h1 : a ≤ 1000000000000000) (hc : code.length ≤ 9223372036854775807) : ACall Try.prog 137 [.p (curP code a s)] [.p (curP code (a + 1) (nxS code a s))] [int (nxV code a s)] := by
  have e1 : wrap64 (a + 1) = a + 1 := w64 (by omega) (by omega)
  refine ACall.of (N := 62) tok Try.func137 rfl rfl rfl (by simp) ?_
  repeat' (first | with_reducible refine OutOK.done ?_ | refine thenQ_n ?_ | refine thenQ_r ?_ | refine thenQ_e ?_ | refine AW.seq ?_ | refine AW.dreg tok mixed [7, 8]  [(0, false), (1, false), (2, false), (4, false), (5, false), (6, false), (3, false), (7, true), (8, true), (9, false)] (by decide +kernel) rfl (by simp [*]; rfl) ?_ | refine AW.dreg tok mixed [7]  [(0, false), (1, false), (2, false), (4, false), (5, false), (6, false), (3, false), (7, true), (8, false), (9, false), (10, false), (11, false)] (by decide +kernel) rfl (by simp [*]; rfl) ?_ | refine AW.dreg tok mixed [7, 8]  [(0, false), (1, false), (2, false), (4, false), (5, false), (6, false), (3, false), (7, true), (8, true), (9, false)] (by decide +kernel) rfl (by simp [*]; rfl) ?_ | refine AW.reg tok (by simp [*]; rfl) ?_ | refine AW.ifB (by simp [*]; rfl) ?_ | refine IfG.t ?_ | refine IfG.f ?_ | ((first | refine IfG.p (fun hg => ?_) (fun hg => ?_) | refine IfG.n (fun hg => ?_) (fun hg => ?_) | refine OutOK.gateP (fun hg => ?_) (fun hg => ?_) | refine OutOK.gateN (fun hg => ?_) (fun hg => ?_) | refine IfG.g (fun hg => ?_) (fun hg => ?_) | refine OutOK.gate (fun hg => ?_) (fun hg => ?_)) <;> (try (have hg' := hg; simp at hg'))) | refine OutOK.run (by simp [*]; rfl) ?_ | refine AW.ret ?_ | refine AW.skip ?_ | refine AW.exit ?_ | refine fin_r ?_ | refine fin_n ?_ | refine AW.block ?_ | refine blockQ_n ?_ | refine blockQ_r ?_ | refine blockQ_e ?_ | refine blockQ_o rfl ?_)
  all_goals simp [Try.f137, nxV, nxS, nxB, *]
theorem x_spec_l1Cur_next (code : List Int) (a s : Int) (h0 : 0 ≤ a) (h1 : a ≤ 1000000000000) (hc : code.length ≤ 9223372036854775807) (hb : BytesOK code) :
    ACallX Try.prog 137 [.p (curP code a s)] (fun x : Int × Int => 0 ≤ x.2 ∧ x.2 ≤ 255) (fun x => [.p (curP code (a + 1) x.1)]) (fun x => [int x.2]) :=
  ACallX.imp (c_spec_l1Cur_next code a s h0 (by omega) hc).x (fun _ => (nxS code a s, nxV code a s)) (fun _ _ => nxV_le hb a s h0) (fun _ _ => rfl) (fun _ _ => rfl)
theorem tmod_in {v n : Int} (h : 0 ≤ v) (hn : 0 < n) : 0 ≤ Int.tmod v n ∧ Int.tmod v n < n := by
  rw [Int.tmod_eq_emod_of_nonneg h]
  exact ⟨Int.emod_nonneg _ (by omega), Int.emod_lt_of_pos _ hn⟩
theorem x_spec_l1Cur_pick (code : List Int) (a s n : Int) (h0 : 0 ≤ a) (h1 : a ≤ 900000000000) (hc : code.length ≤ 9223372036854775807) (hb : BytesOK code) (hn : 1 < n) (hn' : n ≤ 1000000) :
    ACallX Try.prog 108 [.p (curP code a s), int n] (fun x : Int × Int × Int => a ≤ x.1 ∧ x.1 ≤ a + 2 ∧ 0 ≤ x.2.2 ∧ x.2.2 < n) (fun x => [.p (curP code x.1 x.2.1), .x]) (fun x => [int x.2.2]) := by
  have e1 : ¬ n ≤ 1 := by omega
  have e3 : ¬ n = 0 := by omega
  by_cases e2 : 200 < n
  · refine ACallX.of (N := 20) tok Try.func108 rfl rfl rfl (by simp) ?_
    repeat' (first | with_reducible refine OutOK.done ?_ | refine thenQ_n ?_ | refine thenQ_r ?_ | refine thenQ_e ?_ | refine AW.seq ?_ | refine AW.reg tok (by simp [*]; rfl) ?_ | refine AW.ifB (by simp [*]; rfl) ?_ | refine IfG.t ?_ | refine IfG.f ?_ | ((first | refine IfG.p (fun hg => ?_) (fun hg => ?_) | refine IfG.n (fun hg => ?_) (fun hg => ?_) | refine OutOK.gateP (fun hg => ?_) (fun hg => ?_) | refine OutOK.gateN (fun hg => ?_) (fun hg => ?_) | refine IfG.g (fun hg => ?_) (fun hg => ?_) | refine OutOK.gate (fun hg => ?_) (fun hg => ?_)) <;> (try (have hg' := hg; simp at hg'))) | (refine OutOK.callX [] (by simp [*]; rfl) (by simp [*]; rfl) (by simp [*]; rfl) hb137 (by apply x_spec_l1Cur_next <;> first | assumption | exact Hd.out (by assumption) | ((try clear e1); (try clear e2); (try clear e3); omega)) ⟨by simp [*], by simp [*], by simp [*]⟩ (by simp [*]) (fun x hx => CallX.mk' ⟨by simp [*], by simp [*], by simp [*], by simp [*], by simp [*]⟩ (by simp [*]; rfl) ?_)) | refine OutOK.run (by simp [*]; rfl) ?_ | refine AW.ret ?_ | refine AW.skip ?_ | refine AW.exit ?_ | refine fin_r ?_ | refine fin_n ?_ | refine AW.block ?_ | refine blockQ_n ?_ | refine blockQ_r ?_ | refine blockQ_e ?_ | refine blockQ_o rfl ?_)
    rename_i x1 hx1
    have hv := tmod_in (v := wrap64 (wrap64 (x1.2 * 256) + x.2)) (n := n) (by rw [w64 (x := x1.2 * 256) (by omega) (by omega), w64 (by omega) (by omega)]; omega) (by omega)
    exact ⟨(a + 1 + 1, x.1, Int.tmod (wrap64 (wrap64 (x1.2 * 256) + x.2)) n), ⟨by simp only; omega, by simp only; omega, hv.1, hv.2⟩, by simp [Try.f108]⟩
  · refine ACallX.of (N := 20) tok Try.func108 rfl rfl rfl (by simp) ?_
    repeat' (first | with_reducible refine OutOK.done ?_ | refine thenQ_n ?_ | refine thenQ_r ?_ | refine thenQ_e ?_ | refine AW.seq ?_ | refine AW.reg tok (by simp [*]; rfl) ?_ | refine AW.ifB (by simp [*]; rfl) ?_ | refine IfG.t ?_ | refine IfG.f ?_ | ((first | refine IfG.p (fun hg => ?_) (fun hg => ?_) | refine IfG.n (fun hg => ?_) (fun hg => ?_) | refine OutOK.gateP (fun hg => ?_) (fun hg => ?_) | refine OutOK.gateN (fun hg => ?_) (fun hg => ?_) | refine IfG.g (fun hg => ?_) (fun hg => ?_) | refine OutOK.gate (fun hg => ?_) (fun hg => ?_)) <;> (try (have hg' := hg; simp at hg'))) | (refine OutOK.callX [] (by simp [*]; rfl) (by simp [*]; rfl) (by simp [*]; rfl) hb137 (by apply x_spec_l1Cur_next <;> first | assumption | exact Hd.out (by assumption) | ((try clear e1); (try clear e2); (try clear e3); omega)) ⟨by simp [*], by simp [*], by simp [*]⟩ (by simp [*]) (fun x hx => CallX.mk' ⟨by simp [*], by simp [*], by simp [*], by simp [*], by simp [*]⟩ (by simp [*]; rfl) ?_)) | refine OutOK.run (by simp [*]; rfl) ?_ | refine AW.ret ?_ | refine AW.skip ?_ | refine AW.exit ?_ | refine fin_r ?_ | refine fin_n ?_ | refine AW.block ?_ | refine blockQ_n ?_ | refine blockQ_r ?_ | refine blockQ_e ?_ | refine blockQ_o rfl ?_)
    have hv := tmod_in (v := x.2) (n := n) (by omega) (by omega)
    exact ⟨(a + 1, x.1, Int.tmod x.2 n), ⟨by simp only; omega, by simp only; omega, hv.1, hv.2⟩, by simp [Try.f108]⟩
theorem x_pickG (code : List Int) (a s n : Int) (h0 : 0 ≤ a) (h1 : a ≤ 900000000000) (hc : code.length ≤ 9223372036854775807) (hb : BytesOK code) (hn' : n ≤ 1000000) :
    ACallX Try.prog 108 [.p (curP code a s), int n] (fun x : Int × Int × Int => a ≤ x.1 ∧ x.1 ≤ a + 2 ∧ 0 ≤ x.2.2 ∧ (x.2.2 < n ∨ x.2.2 = 0)) (fun x => [.p (curP code x.1 x.2.1), .x]) (fun x => [int x.2.2]) := by
  by_cases hn : 1 < n
  · exact (x_spec_l1Cur_pick code a s n h0 h1 hc hb hn hn').imp id (fun x hx => ⟨hx.1, hx.2.1, hx.2.2.1, .inl hx.2.2.2⟩) (fun _ _ => rfl) (fun _ _ => rfl)
  · have e1 : n ≤ 1 := by omega
    refine ACallX.of (N := 20) tok Try.func108 rfl rfl rfl (by simp) ?_
    repeat' (first | with_reducible refine OutOK.done ?_ | refine thenQ_n ?_ | refine thenQ_r ?_ | refine thenQ_e ?_ | refine AW.seq ?_ | refine AW.reg tok (by simp [*]; rfl) ?_ | refine AW.ifB (by simp [*]; rfl) ?_ | refine IfG.t ?_ | refine IfG.f ?_ | ((first | refine IfG.p (fun hg => ?_) (fun hg => ?_) | refine IfG.n (fun hg => ?_) (fun hg => ?_) | refine OutOK.gateP (fun hg => ?_) (fun hg => ?_) | refine OutOK.gateN (fun hg => ?_) (fun hg => ?_) | refine IfG.g (fun hg => ?_) (fun hg => ?_) | refine OutOK.gate (fun hg => ?_) (fun hg => ?_)) <;> (try (have hg' := hg; simp at hg'))) | refine OutOK.run (by simp [*]; rfl) ?_ | refine AW.ret ?_ | refine AW.skip ?_ | refine AW.exit ?_ | refine fin_r ?_ | refine fin_n ?_ | refine AW.block ?_ | refine blockQ_n ?_ | refine blockQ_r ?_ | refine blockQ_e ?_ | refine blockQ_o rfl ?_)
    exact ⟨(a, s, 0), ⟨by simp, by simp only; omega, by simp, .inr rfl⟩, by simp [Try.f108]⟩
theorem x_spec_l1Cur_one (code : List Int) (a s n : Int) (h0 : 0 ≤ a) (h1 : a ≤ 900000000000) (hc : code.length ≤ 9223372036854775807) (hb : BytesOK code) (hn : 1 < n) (hn' : n ≤ 1000000) :
    ACallX Try.prog 106 [.p (curP code a s), int n] (fun x : Int × Int × Bool => a ≤ x.1 ∧ x.1 ≤ a + 2) (fun x => [.p (curP code x.1 x.2.1), .x]) (fun x => [boo x.2.2]) := by
  refine ACallX.of (N := 9) tok Try.func106 rfl rfl rfl (by simp) ?_
  repeat' (first | with_reducible refine OutOK.done ?_ | refine thenQ_n ?_ | refine thenQ_r ?_ | refine thenQ_e ?_ | refine AW.seq ?_ | refine AW.reg tok (by simp [*]; rfl) ?_ | refine AW.ifB (by simp [*]; rfl) ?_ | refine IfG.t ?_ | refine IfG.f ?_ | ((first | refine IfG.p (fun hg => ?_) (fun hg => ?_) | refine IfG.n (fun hg => ?_) (fun hg => ?_) | refine OutOK.gateP (fun hg => ?_) (fun hg => ?_) | refine OutOK.gateN (fun hg => ?_) (fun hg => ?_) | refine IfG.g (fun hg => ?_) (fun hg => ?_) | refine OutOK.gate (fun hg => ?_) (fun hg => ?_)) <;> (try (have hg' := hg; simp at hg'))) | (refine OutOK.callX [] (by simp [*]; rfl) (by simp [*]; rfl) (by simp [*]; rfl) hb108 (by apply x_spec_l1Cur_pick <;> first | assumption | exact Hd.out (by assumption) | omega) ⟨by simp [*], by simp [*], by simp [*]⟩ (by simp [*]) (fun x hx => CallX.mk' ⟨by simp [*], by simp [*], by simp [*], by simp [*], by simp [*]⟩ (by simp [*]; rfl) ?_)) | refine OutOK.run (by simp [*]; rfl) ?_ | refine AW.ret ?_ | refine AW.skip ?_ | refine AW.exit ?_ | refine fin_r ?_ | refine fin_n ?_ | refine AW.block ?_ | refine blockQ_n ?_ | refine blockQ_r ?_ | refine blockQ_e ?_ | refine blockQ_o rfl ?_)
  exact ⟨(x.1, x.2.1, decide (x.2.2 = 0)), ⟨hx.1, hx.2.1⟩, by simp [Try.f106]⟩
theorem x_spec_l1Cur_among (code : List Int) (a s : Int) (xs : List Int) (q : Int → Prop) (h0 : 0 ≤ a) (h1 : a ≤ 900000000000) (hc : code.length ≤ 9223372036854775807) (hb : BytesOK code) (hn : 1 < xs.length) (hn' : xs.length ≤ 1000000) (hq : ∀ y ∈ xs, q y) :
    ACallX Try.prog 134 [.p (curP code a s), .v (.sl false 1 (ints xs))] (fun x : Int × Int × Int => a ≤ x.1 ∧ x.1 ≤ a + 2 ∧ q x.2.2) (fun x => [.p (curP code x.1 x.2.1), .x]) (fun x => [int x.2.2]) := by
  replace hq : Hd _ := hq
  have hn2 : (1 : Int) < xs.length := by omega
  refine ACallX.of (N := 12) tok Try.func134 rfl rfl rfl (by simp) ?_
  repeat' (first | with_reducible refine OutOK.done ?_ | refine thenQ_n ?_ | refine thenQ_r ?_ | refine thenQ_e ?_ | refine AW.seq ?_ | refine AW.reg tok (by simp [*]; rfl) ?_ | refine AW.ifB (by simp [*]; rfl) ?_ | refine IfG.t ?_ | refine IfG.f ?_ | ((first | refine IfG.p (fun hg => ?_) (fun hg => ?_) | refine IfG.n (fun hg => ?_) (fun hg => ?_) | refine OutOK.gateP (fun hg => ?_) (fun hg => ?_) | refine OutOK.gateN (fun hg => ?_) (fun hg => ?_) | refine IfG.g (fun hg => ?_) (fun hg => ?_) | refine OutOK.gate (fun hg => ?_) (fun hg => ?_)) <;> (try (have hg' := hg; simp at hg'))) | refine OutOK.run (by simp [*]; rfl) ?_ | refine AW.ret ?_ | refine AW.skip ?_ | refine AW.exit ?_ | refine fin_r ?_ | refine fin_n ?_ | refine AW.block ?_ | refine blockQ_n ?_ | refine blockQ_r ?_ | refine blockQ_e ?_ | refine blockQ_o rfl ?_)
  refine OutOK.callX [] (by simp [*]; rfl) (by simp [*]; rfl) (by simp [*]; rfl) hb108 (by apply x_spec_l1Cur_pick <;> first | assumption | exact Hd.out (by assumption) | omega) ⟨by simp [*], by simp [*], by simp [*]⟩ (by simp [*]) (fun x hx => ?_)
  have hk : x.2.2.toNat < xs.length := by omega
  refine CallX.mk' ⟨by simp [*], by simp [*], by simp [*], by simp [*], by simp [*]⟩ (by simp [*]; rfl) ?_
  repeat' (first | with_reducible refine OutOK.done ?_ | refine thenQ_n ?_ | refine thenQ_r ?_ | refine thenQ_e ?_ | refine AW.seq ?_ | refine AW.reg tok (by simp [*]; rfl) ?_ | refine AW.ifB (by simp [*]; rfl) ?_ | refine IfG.t ?_ | refine IfG.f ?_ | ((first | refine IfG.p (fun hg => ?_) (fun hg => ?_) | refine IfG.n (fun hg => ?_) (fun hg => ?_) | refine OutOK.gateP (fun hg => ?_) (fun hg => ?_) | refine OutOK.gateN (fun hg => ?_) (fun hg => ?_) | refine IfG.g (fun hg => ?_) (fun hg => ?_) | refine OutOK.gate (fun hg => ?_) (fun hg => ?_)) <;> (try (have hg' := hg; simp at hg'))) | refine OutOK.run (by simp [*]; rfl) ?_ | refine AW.ret ?_ | refine AW.skip ?_ | refine AW.exit ?_ | refine fin_r ?_ | refine fin_n ?_ | refine AW.block ?_ | refine blockQ_n ?_ | refine blockQ_r ?_ | refine blockQ_e ?_ | refine blockQ_o rfl ?_)
  exact ⟨(x.1, x.2.1, xs[x.2.2.toNat]), ⟨hx.1, hx.2.1, hq.out _ (List.getElem_mem hk)⟩, by simp [Try.f134]⟩
def strs (xs : List ByteArray) : List PV := xs.map fun x => .sc (.string x)
@[simp] theorem strs_len (xs) : (strs xs).length = xs.length := by simp [strs]
@[simp] theorem strs_get (xs : List ByteArray) (i : Nat) : (strs xs)[i]? = (xs[i]?).map fun x => .sc (.string x) := by simp [strs]
@[simp] theorem strs_at (xs : List ByteArray) (i : Nat) (h : i < (strs xs).length) : (strs xs)[i] = .sc (.string (xs[i]'(by simpa using h))) := by simp [strs]
@[simp] theorem strs_frz (xs) : PV.frzs (strs xs) = strs xs := by simp [strs]
theorem x_spec_l1Cur_of (code : List Int) (a s : Int) (xs : List ByteArray) (q : ByteArray → Prop) (h0 : 0 ≤ a) (h1 : a ≤ 900000000000) (hc : code.length ≤ 9223372036854775807) (hb : BytesOK code) (hn : 1 < xs.length) (hn' : xs.length ≤ 1000000) (hq : ∀ y ∈ xs, q y) :
    ACallX Try.prog 135 [.p (curP code a s), .v (.sl false 1 (strs xs))] (fun x : Int × Int × ByteArray => a ≤ x.1 ∧ x.1 ≤ a + 2 ∧ q x.2.2) (fun x => [.p (curP code x.1 x.2.1), .x]) (fun x => [.v (.sc (.string x.2.2))]) := by
  replace hq : Hd _ := hq
  have hn2 : (1 : Int) < xs.length := by omega
  refine ACallX.of (N := 12) tok Try.func135 rfl rfl rfl (by simp) ?_
  repeat' (first | with_reducible refine OutOK.done ?_ | refine thenQ_n ?_ | refine thenQ_r ?_ | refine thenQ_e ?_ | refine AW.seq ?_ | refine AW.reg tok (by simp [*]; rfl) ?_ | refine AW.ifB (by simp [*]; rfl) ?_ | refine IfG.t ?_ | refine IfG.f ?_ | ((first | refine IfG.p (fun hg => ?_) (fun hg => ?_) | refine IfG.n (fun hg => ?_) (fun hg => ?_) | refine OutOK.gateP (fun hg => ?_) (fun hg => ?_) | refine OutOK.gateN (fun hg => ?_) (fun hg => ?_) | refine IfG.g (fun hg => ?_) (fun hg => ?_) | refine OutOK.gate (fun hg => ?_) (fun hg => ?_)) <;> (try (have hg' := hg; simp at hg'))) | refine OutOK.run (by simp [*]; rfl) ?_ | refine AW.ret ?_ | refine AW.skip ?_ | refine AW.exit ?_ | refine fin_r ?_ | refine fin_n ?_ | refine AW.block ?_ | refine blockQ_n ?_ | refine blockQ_r ?_ | refine blockQ_e ?_ | refine blockQ_o rfl ?_)
  refine OutOK.callX [] (by simp [*]; rfl) (by simp [*]; rfl) (by simp [*]; rfl) hb108 (by apply x_spec_l1Cur_pick <;> first | assumption | exact Hd.out (by assumption) | omega) ⟨by simp [*], by simp [*], by simp [*]⟩ (by simp [*]) (fun x hx => ?_)
  have hk : x.2.2.toNat < xs.length := by omega
  refine CallX.mk' ⟨by simp [*], by simp [*], by simp [*], by simp [*], by simp [*]⟩ (by simp [*]; rfl) ?_
  repeat' (first | with_reducible refine OutOK.done ?_ | refine thenQ_n ?_ | refine thenQ_r ?_ | refine thenQ_e ?_ | refine AW.seq ?_ | refine AW.reg tok (by simp [*]; rfl) ?_ | refine AW.ifB (by simp [*]; rfl) ?_ | refine IfG.t ?_ | refine IfG.f ?_ | ((first | refine IfG.p (fun hg => ?_) (fun hg => ?_) | refine IfG.n (fun hg => ?_) (fun hg => ?_) | refine OutOK.gateP (fun hg => ?_) (fun hg => ?_) | refine OutOK.gateN (fun hg => ?_) (fun hg => ?_) | refine IfG.g (fun hg => ?_) (fun hg => ?_) | refine OutOK.gate (fun hg => ?_) (fun hg => ?_)) <;> (try (have hg' := hg; simp at hg'))) | refine OutOK.run (by simp [*]; rfl) ?_ | refine AW.ret ?_ | refine AW.skip ?_ | refine AW.exit ?_ | refine fin_r ?_ | refine fin_n ?_ | refine AW.block ?_ | refine blockQ_n ?_ | refine blockQ_r ?_ | refine blockQ_e ?_ | refine blockQ_o rfl ?_)
  exact ⟨(x.1, x.2.1, xs[x.2.2.toNat]), ⟨hx.1, hx.2.1, hq.out _ (List.getElem_mem hk)⟩, by simp [Try.f135]⟩
theorem c_laws_vBig (code : List Int) : ACall Try.prog 14 [.v (.sl true 1 (bys code))] [.x] [boo (decide (65536 < (code.length : Int)))] := by
  refine ACall.of (N := 6) tok Try.func14 rfl rfl rfl (by simp) ?_
  repeat' (first | with_reducible refine OutOK.done ?_ | refine thenQ_n ?_ | refine thenQ_r ?_ | refine thenQ_e ?_ | refine AW.seq ?_ | refine AW.reg tok (by simp [*]; rfl) ?_ | refine AW.ifB (by simp [*]; rfl) ?_ | refine IfG.t ?_ | refine IfG.f ?_ | ((first | refine IfG.p (fun hg => ?_) (fun hg => ?_) | refine IfG.n (fun hg => ?_) (fun hg => ?_) | refine OutOK.gateP (fun hg => ?_) (fun hg => ?_) | refine OutOK.gateN (fun hg => ?_) (fun hg => ?_) | refine IfG.g (fun hg => ?_) (fun hg => ?_) | refine OutOK.gate (fun hg => ?_) (fun hg => ?_)) <;> (try (have hg' := hg; simp at hg'))) | refine OutOK.run (by simp [*]; rfl) ?_ | refine AW.ret ?_ | refine AW.skip ?_ | refine AW.exit ?_ | refine fin_r ?_ | refine fin_n ?_ | refine AW.block ?_ | refine blockQ_n ?_ | refine blockQ_r ?_ | refine blockQ_e ?_ | refine blockQ_o rfl ?_)
  all_goals (try simp [*, Try.f14])
end Go.Proofs.Ytbofobjofngoeaa.EngS


set_option linter.unusedSimpArgs false
set_option linter.unusedVariables false
namespace Go.Eng
open Go.RowKit
variable {P : Program} {T : Nat → Option TI} {N : Nat}
theorem Rel0.takeOutC {N fr S rv st a w} (hf : FrOK P N fr) (h : Rel0 fr S rv st a w) {w' : World} {d n : Nat} {r r' : Root} {p : List Nat} {c c0 : PV} {v : Value} {ms : List Nat} {S1 S2 Sd : Nat → Prop}
    (hσ : st.σ n = some r) (hg : r.node.get p = some c) (hca : c.isAg = false) (hp : p ≠ [])
    (hos : w'.os = w.os) (htape : TD w w') (hout : w'.output = w.output) (hsz : w.heap.size ≤ w'.heap.size) (hall : ∀ b, b < w.heap.size → ¬ S1 b → (∀ n ∈ ms, ¬ S n b) → w'.heap[b]? = w.heap[b]?)
    (hd : st.σ d = none) (hdn : d ≠ n) (hnm : n ∉ ms) (hms : ∀ n ∈ ms, ∃ r, st.σ n = some r) (hsep : Sep (S n) S1 S2)
    (hR : RR w' fr.X (r.put p c0) (rv n) S2)
    (hL : ∀ p' x, rLoc w r (rv n) p' = some x → ¬ Ext p p' → rLoc w' (r.put p c0) (rv n) p' = some x ∧
          (∀ m, r.node.get p' = some m → m.isAg = false → w'.cell? ⟨x.1, x.2, none⟩ = w.cell? ⟨x.1, x.2, none⟩))
    (hr : RR w' fr.X r' v Sd) (hSd : ∀ b, Sd b → (w.heap.size ≤ b ∧ b < w'.heap.size) ∨ S1 b ∨ ∃ n ∈ ms, S n b) (hr0 : fr.rv0 d = none) :
    ∃ S' rv', Rel0 fr S' rv' ((st.upd n (r.put p c0) ms [p]).new d r') a w' ∧ rv' d = v := by
  have hlt : ∀ n r b, st.σ n = some r → S n b → b < w.heap.size := fun n r b hn hb => (h.sout n r b hn hb).1
  refine ⟨fun m => if m = d then Sd else if m = n then S2 else S m, fun m => if m = d then v else rv m, ?_, by simp⟩
  have hset : ∀ p' f k es, r.node.get p' = some (.sl f k es) → ¬ p <+: p' → ∃ es', (r.put p c0).node.get p' = some (.sl f k es') := by
    intro p' f k es hg' hnp
    rw [Root.node_put hp]
    exact PV.get_set_sl p p' r.node c0 f k es hnp hg'
  have hkind := put_kind (r := r) (c := c0) hp
  refine h.change (w' := w') (σ' := fun m => if m = d then some r' else if m = n then some (r.put p c0) else if m ∈ ms then none else st.σ m) (S' := fun m => if m = d then Sd else if m = n then S2 else S m) (rv' := fun m => if m = d then v else rv m) (fun m => m = d ∨ m = n ∨ m ∈ ms)
    hos htape hout hsz ?_ ?_ ?_ ?_ ?_ ?_ ?_ ?_ ?_ (killP n ms [p]) (killQ n ms [p]) ?_ ?_ ?_ ?_
  · intro b hb
    refine hall b (Nat.lt_of_lt_of_le (h.xlt b hb) h.size) (fun hS => (h.sout n r b hσ (hsep.1 b hS)).2.1 hb) (fun m hm hS => ?_)
    obtain ⟨r', hr'⟩ := hms m hm; exact (h.sout m r' b hr' hS).2.1 hb
  · intro m r1 hc hr1 b hb
    simp only [not_or] at hc
    refine hall b (hlt m r1 b hr1 hb) (fun hS => h.sdis m n r1 r b hr1 hσ hc.2.1 hb (hsep.1 b hS)) (fun m' hm' hS => ?_)
    obtain ⟨r', hr'⟩ := hms m' hm'; exact h.sdis m m' r1 r' b hr1 hr' (fun e => hc.2.2 (e ▸ hm')) hb hS
  · intro m hc; simp only [not_or] at hc; simp [hc.1, hc.2.1, hc.2.2]
  · intro m hc; simp only [not_or] at hc; simp [hc.1, hc.2.1]
  · intro m hc; simp only [not_or] at hc; simp [hc.1]
  · intro m r1 hc hr1
    by_cases e : m = d
    · subst e; simp only [if_true, Option.some.injEq] at hr1; subst hr1; simpa using hr
    · by_cases e2 : m = n
      · subst e2; simp only [e, if_false, if_true, Option.some.injEq] at hr1; subst hr1; simpa [e] using hR
      · have := (hc.resolve_left e).resolve_left e2; simp [e, e2, this] at hr1
  · intro m r1 b hc hr1 hb
    by_cases e : m = d
    · subst e
      simp only [if_true] at hb
      rcases hSd b hb with hh | hh | ⟨m', hm', hb⟩
      · exact .inl hh
      · exact .inr ⟨n, r, .inr (.inl rfl), hσ, hsep.1 b hh⟩
      · obtain ⟨r2, hr2⟩ := hms m' hm'; exact .inr ⟨m', r2, .inr (.inr hm'), hr2, hb⟩
    · by_cases e2 : m = n
      · subst e2; simp only [e, if_false, if_true] at hb; exact .inr ⟨m, r, .inr (.inl rfl), hσ, hsep.2.1 b hb⟩
      · have := (hc.resolve_left e).resolve_left e2; simp [e, e2, this] at hr1
  · have mixed : ∀ b, Sd b → S2 b → False := by
      intro b h1 h2
      rcases hSd b h1 with hh | hh | ⟨m', hm', hb⟩
      · have := hlt n r b hσ (hsep.2.1 b h2); omega
      · exact hsep.2.2 b hh h2
      · obtain ⟨r2, hr2⟩ := hms m' hm'; exact h.sdis m' n r2 r b hr2 hσ (fun e => hnm (e ▸ hm')) hb (hsep.2.1 b h2)
    intro m1 m2 r1 r2 b hc1 hc2 h1 h2 hne hb1 hb2
    by_cases e1 : m1 = d
    · subst e1
      by_cases e2 : m2 = m1
      · exact hne e2.symm
      · by_cases e3 : m2 = n
        · subst e3; simp only [e2, if_false, if_true] at hb1 hb2; exact mixed b hb1 hb2
        · have := (hc2.resolve_left e2).resolve_left e3; simp [e2, e3, this] at h2
    · by_cases e1n : m1 = n
      · subst e1n
        by_cases e2 : m2 = d
        · subst e2; simp only [e1, if_false, if_true] at hb1 hb2; exact mixed b hb2 hb1
        · by_cases e3 : m2 = m1
          · exact hne e3.symm
          · have := (hc2.resolve_left e2).resolve_left e3; simp [e2, e3, this] at h2
      · have := (hc1.resolve_left e1).resolve_left e1n; simp [e1, e1n, this] at h1
  · intro m r1 v' hc hr1 hv'
    by_cases e : m = d
    · subst e; rw [hr0] at hv'; cases hv'
    · by_cases e2 : m = n
      · subst e2; simp only [e, if_false]; exact h.rv0 m r v' hσ hv'
      · have := (hc.resolve_left e).resolve_left e2; simp [e, e2, this] at hr1
  · intro m q v' hc hv'
    unfold killP
    by_cases hm : m ∈ ms
    · simp [hm]
    · by_cases e2 : m = n
      · subst e2
        simp only [hm, if_false, true_and]
        split
        · rename_i hq; split at hq
          · cases hq
          · rename_i hne
            simp only [Option.some.injEq, Prod.mk.injEq] at hq
            obtain ⟨rfl, rfl⟩ := hq
            have hnp : ¬ p <+: q := fun hp' => hne (List.any_eq_true.2 ⟨p, by simp, pre_iff.2 hp'⟩)
            rw [VR_rf] at hv' ⊢
            obtain ⟨r1, hr1, hat, f, k, es, hg'⟩ := hv'
            rw [hσ] at hr1; cases hr1
            obtain ⟨es', hg''⟩ := hset q f k es hg' hnp
            refine ⟨r.put p c0, by simp [Ne.symm hdn], ?_, f, k, es', hg''⟩
            simp only [if_neg (Ne.symm hdn)]
            by_cases hp0 : q = [] ∧ ∃ t, r = .sv t
            · obtain ⟨rfl, t, rfl⟩ := hp0
              obtain ⟨t', ht'⟩ := hkind.1 ⟨t, rfl⟩
              rw [ht']
              simpa [rAt] using hat
            · have hl : ∃ x, rLoc w r (rv m) q = some x ∧ w.cell? ⟨x.1, x.2, none⟩ = some v' := by
                cases r with
                | bx cs => simpa [rAt, Option.bind_eq_some_iff] using hat
                | sv t =>
                  cases q with
                  | nil => exact absurd ⟨rfl, t, rfl⟩ hp0
                  | cons i q => simpa [rAt, Option.bind_eq_some_iff] using hat
              obtain ⟨x, hl, hx⟩ := hl
              obtain ⟨h1, h2⟩ := hL q x hl (fun he => hnp he.1)
              rw [rAt_of_rLoc h1, h2 _ hg' rfl]; exact hx
        · trivial
      · have e' := (hc.imp id (fun h => h.resolve_left e2)).resolve_right hm
        subst e'
        rw [VR_rf] at hv'
        obtain ⟨r1, hr1, _⟩ := hv'
        rw [hd] at hr1; cases hr1
  · intro m q o v' hc hv'
    unfold killQ
    by_cases hm : m ∈ ms
    · simp [hm]
    · by_cases e2 : m = n
      · subst e2
        simp only [hm, if_false, true_and]
        split
        · rename_i hq; split at hq
          · cases hq
          · rename_i hne
            simp only [Option.some.injEq, Prod.mk.injEq] at hq
            obtain ⟨rfl, rfl⟩ := hq
            rw [VR_pt] at hv' ⊢
            obtain ⟨r1, b1, o1, hr1, hl, rfl⟩ := hv'
            rw [hσ] at hr1; cases hr1
            refine ⟨r.put p c0, b1, o1, by simp [Ne.symm hdn], ?_, rfl⟩
            simp only [if_neg (Ne.symm hdn)]
            exact (hL q _ hl (fun he => hne (List.any_eq_true.2 ⟨p, by simp, ext_iff.2 he⟩))).1
        · trivial
      · have e' := (hc.imp id (fun h => h.resolve_left e2)).resolve_right hm
        subst e'
        rw [VR_pt] at hv'
        obtain ⟨r1, b, o', hr1, _⟩ := hv'
        rw [hd] at hr1; cases hr1
  · intro m q hc; simp only [not_or] at hc; simp [killP, hc.2.1, hc.2.2]
  · intro m q hc; simp only [not_or] at hc; simp [killQ, hc.2.1, hc.2.2]

theorem AW.split {c : Code} {st : St} {Q : Exit → St → Prop} (k n d : Nat) (p : List Nat) {r : Root} {kk : Nat} {es : List PV} (hσ : st.σ n = some r) (hp : p ≠ []) (hown : r.node.own p = true) (hg : r.node.get p = some (.sl false kk es)) (hd : st.σ d = none) (hdm : d < 100000000)
    (h : ∀ u : Value, u.oneCell' = true → AW P N c (((st.upd n (r.put p (.sc u)) [] [p]).new d (.sv (.sl false kk es))).put (some k) (.rn d [] (.known u))) Q) : AW P N c st Q := by
  intro fr a w hf ⟨S, rv, hR⟩
  obtain ⟨u, S1, S2, hsep, hau, hru, hres⟩ := RR_lend (hR.rr n r hσ) hown hg rfl
  have ho : u.oneCell' = true := (isOwn_one hru rfl).1
  have hdn : d ≠ n := fun e => by rw [e, hσ] at hd; cases hd
  obtain ⟨hR1, hL1⟩ := hres w (.sc u) (fun _ => False) rfl (fun e => absurd e hp) (fun _ _ => rfl) (fun _ _ => rfl) (by rw [RV_sc]) (fun _ h => h.elim)
  obtain ⟨S', rv', hR', hrv⟩ := hR.takeOutC hf (w' := w) (d := d) (r' := .sv (.sl false kk es)) (v := u) (ms := []) (c0 := .sc u) hσ hg rfl hp rfl TD.refl rfl (Nat.le_refl _) (fun _ _ _ _ => rfl) hd hdn (by simp) (by simp) hsep
    (RR_congr (fun _ _ => rfl) (fun _ h => h) (fun _ _ => rfl) (fun y hy => hy.elim False.elim id) hR1) hL1 ⟨rfl, hru⟩ (fun b hb => .inr (.inl hb))
    (by cases e : fr.rv0 d with
        | none => rfl
        | some v => have := hf.names d v e; omega)
  refine h u ho fr a w hf ⟨S', rv', { hR' with env := fun s => ?_ }⟩
  simp only [St.put]
  by_cases hs : s = k
  · subst hs
    rw [if_pos rfl, VR_rn]
    refine ⟨u, ?_, rfl⟩
    rw [VR_rf]
    exact ⟨_, by simp [St.new]; rfl, by simp [rAt, hrv], false, kk, es, rfl⟩
  · rw [if_neg hs]; exact hR'.env s
theorem AW.join {c : Code} {st : St} {Q : Exit → St → Prop} (k m d : Nat) (q : List Nat) {r : Root} {kk : Nat} {es : List PV} {u : Value} (hk : st.env k = .rn d [] (.known u)) (hd : st.σ d = some (.sv (.sl false kk es))) (hσ : st.σ m = some r) (hmd : m ≠ d) (hq : q ≠ []) (hown : r.node.own q = true) (hg : r.node.get q = some (.sc u))
    (h : AW P N c (st.upd m (r.put q (.sl false kk es)) [d] []) Q) : AW P N c st Q := by
  intro fr a w hf ⟨S, rv, hR⟩
  have h1 := hR.env k
  rw [hk, VR_rn] at h1
  obtain ⟨u', h1, hu⟩ := h1
  have hu : u' = u := hu
  subst hu
  rw [VR_rf, hd] at h1
  obtain ⟨r1, he, hat, _⟩ := h1
  cases he
  simp only [rAt, Option.some.injEq] at hat
  obtain ⟨_, hrd⟩ := hR.rr d _ hd
  rw [hat] at hrd
  obtain ⟨b', o', u2, S1, S2, hl, hsep, hSb, hown2, hcell, hru, hres⟩ := RR_focus (hR.rr m r hσ) hq hown hg rfl
  rw [RV_sc] at hru
  subst hru
  have hdis : ∀ x, S d x → ¬ S2 x := fun x h1 h2 => hR.sdis d m _ _ x hd hσ (Ne.symm hmd) h1 (hsep.2.1 x h2)
  obtain ⟨cur, ty, hh⟩ := hown2
  obtain ⟨hRR, hL⟩ := hres w (.sl false kk es) u2 (S d) rfl (UpdC.of_agr (fun _ _ => rfl) hSb ⟨cur, ty, _, hh⟩ hcell) (fun _ _ => rfl) hrd hdis
  have key := hR.stored (w' := w) (n := m) (r' := r.put q (.sl false kk es)) (ms := [d]) (qs := []) (b := b') hσ (by simpa using hmd) (fun m' hm' => by simp at hm'; subst hm'; exact ⟨_, hd⟩) (hsep.2.1 b' hSb) (fun _ _ => rfl) rfl TD.refl rfl rfl
    (RR_congr (fun _ _ => rfl) (fun _ h => h) (fun _ _ => rfl) (fun y hy => hy.elim (fun hy => .inr ⟨d, by simp, hy⟩) (fun hy => .inl (hsep.2.1 y hy))) hRR)
    (fun p' y hy _ => by
      obtain ⟨q1, q2⟩ := hL p' y hy (sc_no_ext hg hq hy)
      exact ⟨q1, fun f k es hgs _ => q2 _ hgs rfl (fun e => sc_no_pre hg hgs (e ▸ List.prefix_refl _))⟩)
    (fun p' f k es' hgs _ => by
      rw [Root.node_put hq]
      exact PV.get_set_sl q p' r.node _ f k es' (sc_no_pre hg hgs) hgs)
    (put_kind hq)
  exact h fr a w hf ⟨_, _, key⟩
end Go.Eng

set_option linter.unusedSimpArgs false
set_option linter.unusedVariables false
set_option maxHeartbeats 4000000
set_option maxRecDepth 100000
namespace Go.Proofs.Ytbofobjofngoeaa.EngS
open Go Go.Proofs Go.Eng Go.RowKit
theorem c_spec_l21Texts4 : ACall Try.prog 136 [] [] [.v (.sl false 1 (strs [⟨#[114, 101, 100, 32, 99, 108, 97, 121]⟩, ⟨#[103, 114, 101, 121, 32, 115, 105, 108, 116]⟩, ⟨#[112, 105, 116, 32, 102, 105, 108, 108]⟩, ⟨#[]⟩, ⟨#[119, 97, 108, 108, 32, 111, 102, 32, 115, 116, 111, 110, 101]⟩, ⟨#[99, 108, 97, 121, 32, 102, 108, 111, 111, 114]⟩]))] := by
  simp only [strs, List.map_cons, List.map_nil]
  refine ACall.of (N := 2) tok Try.func136 rfl rfl rfl (by simp) ?_
  repeat' (first | with_reducible refine OutOK.done ?_ | refine thenQ_n ?_ | refine thenQ_r ?_ | refine thenQ_e ?_ | refine AW.seq ?_ | refine AW.reg tok (by simp [*]; rfl) ?_ | refine AW.ifB (by simp [*]; rfl) ?_ | refine IfG.t ?_ | refine IfG.f ?_ | ((first | refine IfG.p (fun hg => ?_) (fun hg => ?_) | refine IfG.n (fun hg => ?_) (fun hg => ?_) | refine OutOK.gateP (fun hg => ?_) (fun hg => ?_) | refine OutOK.gateN (fun hg => ?_) (fun hg => ?_) | refine IfG.g (fun hg => ?_) (fun hg => ?_) | refine OutOK.gate (fun hg => ?_) (fun hg => ?_)) <;> (try (have hg' := hg; simp at hg'))) | refine OutOK.run (by simp [*]; rfl) ?_ | refine AW.ret ?_ | refine AW.skip ?_ | refine AW.exit ?_ | refine fin_r ?_ | refine fin_n ?_ | refine AW.block ?_ | refine blockQ_n ?_ | refine blockQ_r ?_ | refine blockQ_e ?_ | refine blockQ_o rfl ?_)
  all_goals (try simp [*, Try.f136])
theorem x_pickN4 (code : List Int) (a s n : Int) (h0 : 0 ≤ a) (h1 : a ≤ 900000000000) (hc : code.length ≤ 9223372036854775807) (hb : BytesOK code) (hn : 1 ≤ n) (hn' : n ≤ 1000000) :
    ACallX Try.prog 108 [.p (curP code a s), int n] (fun x : Int × Int × Nat => a ≤ x.1 ∧ x.1 ≤ a + 2 ∧ (x.2.2 : Int) < n) (fun x => [.p (curP code x.1 x.2.1), .x]) (fun x => [int x.2.2]) :=
  (x_pickG code a s n h0 h1 hc hb hn').imp (fun x => (x.1, x.2.1, x.2.2.toNat)) (fun x hx => ⟨hx.1, hx.2.1, by have := hx.2.2; simp only; omega⟩) (fun _ _ => rfl) (fun x hx => by simp [Int.toNat_of_nonneg hx.2.2.1])
theorem x_ofT (code : List Int) (a s : Int) (xs : List ByteArray) (h0 : 0 ≤ a) (h1 : a ≤ 900000000000) (hc : code.length ≤ 9223372036854775807) (hb : BytesOK code) (hn : 1 < xs.length) (hn' : xs.length ≤ 1000000) (hq : ∀ y ∈ xs, y.size ≤ 1000) :
    ACallX Try.prog 135 [.p (curP code a s), .v (.sl false 1 (strs xs))] (fun x : Int × Int × ByteArray => a ≤ x.1 ∧ x.1 ≤ a + 2 ∧ x.2.2.size ≤ 1000) (fun x => [.p (curP code x.1 x.2.1), .x]) (fun x => [.v (.sc (.string x.2.2))]) :=
  x_spec_l1Cur_of code a s xs (fun y => y.size ≤ 1000) h0 h1 hc hb hn hn' hq
def HOK (N : Nat) (l : List Edt) : Prop := ∀ e ∈ l, e.ck.length = N ∧ e.it.size ≤ 1000 ∧ e.tx.size ≤ 1000
theorem HOK_put {N : Nat} {l : List Edt} {e : Edt} (h : HOK N l) (he : e.ck.length = N ∧ e.it.size ≤ 1000 ∧ e.tx.size ≤ 1000) : HOK N (putL l e) := fun x hx => by
  rcases putL_mem.1 hx with rfl | hx
  · exact he
  · exact h x hx
theorem x_spec_l1Cur_history (code : List Int) (a s : Int) (N : Nat) (hN1 : 1 ≤ N) (hN : N ≤ 3) (h0 : 0 ≤ a) (h1 : a ≤ 700000000000) (hc : code.length ≤ 9223372036854775807) (hb : BytesOK code) :
    ACallX Try.prog 107 [.p (curP code a s), int (N : Int)] (fun x : Int × Int × List Edt => a ≤ x.1 ∧ x.1 ≤ a + 300 ∧ x.2.2.length ≤ 8 ∧ HOK N x.2.2) (fun x => [.p (curP code x.1 x.2.1), .x]) (fun x => [.v (.sl false 5 (edts false x.2.2))]) := by
  have hN0 : 0 ≤ (N : Int) := by omega
  have h8 : (N : Int) * 8 ≤ 140737488355328 := by omega
  have h9 : (N : Int) ≤ 4611686018427387904 := by omega
  have cI := fun (a s : Int) h0 h1 => x_ofT code a s [⟨#[112, 105, 116]⟩, ⟨#[119, 97, 108, 108]⟩, ⟨#[102, 108, 111, 111, 114]⟩] h0 h1 hc hb (by decide) (by decide) (by decide)
  have cT := fun (a s : Int) h0 h1 => x_ofT code a s [⟨#[114, 101, 100, 32, 99, 108, 97, 121]⟩, ⟨#[103, 114, 101, 121, 32, 115, 105, 108, 116]⟩, ⟨#[112, 105, 116, 32, 102, 105, 108, 108]⟩, ⟨#[]⟩, ⟨#[119, 97, 108, 108, 32, 111, 102, 32, 115, 116, 111, 110, 101]⟩, ⟨#[99, 108, 97, 121, 32, 102, 108, 111, 111, 114]⟩] h0 h1 hc hb (by decide) (by decide) (by decide)
  have cX := c_spec_l21Texts4
  simp only [strs, List.map_cons, List.map_nil] at cI cT cX
  have cXx := cX.x
  clear cX
  have cq := fun (a s : Int) h0 h1 => x_pickN4 code a s (N : Int) h0 h1 hc hb (by omega) (by omega)
  refine ACallX.of (N := 58) tok Try.func107 rfl rfl rfl (by simp) ?_
  repeat' (first | with_reducible refine OutOK.done ?_ | refine thenQ_n ?_ | refine thenQ_r ?_ | refine thenQ_e ?_ | refine AW.seq ?_ | refine AW.reg tok (by simp [*]; rfl) ?_ | refine AW.ifB (by simp [*]; rfl) ?_ | refine IfG.t ?_ | refine IfG.f ?_ | ((first | refine IfG.p (fun hg => ?_) (fun hg => ?_) | refine IfG.n (fun hg => ?_) (fun hg => ?_) | refine OutOK.gateP (fun hg => ?_) (fun hg => ?_) | refine OutOK.gateN (fun hg => ?_) (fun hg => ?_) | refine IfG.g (fun hg => ?_) (fun hg => ?_) | refine OutOK.gate (fun hg => ?_) (fun hg => ?_)) <;> (try (have hg' := hg; simp at hg'))) | refine OutOK.run (by simp [*]; rfl) ?_ | refine AW.ret ?_ | refine AW.skip ?_ | refine AW.exit ?_ | refine fin_r ?_ | refine fin_n ?_ | refine AW.block ?_ | refine blockQ_n ?_ | refine blockQ_r ?_ | refine blockQ_e ?_ | refine blockQ_o rfl ?_)
  refine OutOK.callX [] (by simp [*]; rfl) (by simp [*]; rfl) (by simp [*]; rfl) hb108 (by apply x_pickN4 <;> first | assumption | exact Hd.out (by assumption) | ((try clear e1); (try clear e2); (try clear e3); omega)) ⟨by simp [*], by simp [*], by simp [*]⟩ (by simp [*]) (fun x hx => ?_)
  obtain ⟨a1, s1, v⟩ := x
  simp only at hx
  obtain ⟨p1, p2, p3⟩ := hx
  refine CallX.mk' ⟨by simp [*], by simp [*], by simp [*], by simp [*], by simp [*]⟩ (by simp [*]; rfl) ?_
  repeat' (first | with_reducible refine OutOK.done ?_ | refine thenQ_n ?_ | refine thenQ_r ?_ | refine thenQ_e ?_ | refine AW.seq ?_ | refine AW.reg tok (by simp [*]; rfl) ?_ | refine AW.ifB (by simp [*]; rfl) ?_ | refine IfG.t ?_ | refine IfG.f ?_ | ((first | refine IfG.p (fun hg => ?_) (fun hg => ?_) | refine IfG.n (fun hg => ?_) (fun hg => ?_) | refine OutOK.gateP (fun hg => ?_) (fun hg => ?_) | refine OutOK.gateN (fun hg => ?_) (fun hg => ?_) | refine IfG.g (fun hg => ?_) (fun hg => ?_) | refine OutOK.gate (fun hg => ?_) (fun hg => ?_)) <;> (try (have hg' := hg; simp at hg'))) | refine OutOK.run (by simp [*]; rfl) ?_ | refine AW.ret ?_ | refine AW.skip ?_ | refine AW.exit ?_ | refine fin_r ?_ | refine fin_n ?_ | refine AW.block ?_ | refine blockQ_n ?_ | refine blockQ_r ?_ | refine blockQ_e ?_ | refine blockQ_o rfl ?_)
  refine AW.loopS (α := Int × Int × List Edt × Nat) (fun q => a1 ≤ q.1 ∧ q.1 ≤ a1 + 20 * (8 - (q.2.2.2 : Int)) ∧ q.2.2.2 ≤ 8 ∧ q.2.2.1.length + q.2.2.2 ≤ 8 ∧ Hd (HOK N q.2.2.1)) (fun q => [(0, .pt 100000000 [] 0), (1, .c (.sc (.int .i64 (N : Int)))), (5, .rf 11000 []), (6, .c (.sc (.int .i64 (q.2.2.2 : Int))))])
    (fun q => [(11000, .sv (.sl false 5 (edts false q.2.2.1))), (100000000, .bx (curP code q.1 q.2.1))]) (fun q => q.2.2.2) (a1, s1, [], v) ⟨by simp, by simp only; ((try clear e1); (try clear e2); (try clear e3); omega), by simp only; ((try clear e1); (try clear e2); (try clear e3); omega), by simp only [List.length_nil]; ((try clear e1); (try clear e2); (try clear e3); omega), fun y hy => by simp at hy⟩ [] (by simp) ⟨by simp, by simp, by simp⟩ ?_
  rintro ⟨a2, s2, l, m⟩ ⟨q1, q2, q3, q4, q5⟩
  simp only at q1 q2 q3 q4 q5
  rcases Nat.lt_or_ge 0 m with hl | hl
  · obtain ⟨m1, hm1⟩ : ∃ m1, m = m1 + 1 := ⟨m - 1, by ((try clear e1); (try clear e2); (try clear e3); omega)⟩
    have e1 : wrap64 ((m : Int) - 1) = (m1 : Int) := by rw [w64 (by ((try clear e1); (try clear e2); (try clear e3); omega)) (by ((try clear e1); (try clear e2); (try clear e3); omega))]; ((try clear e1); (try clear e2); (try clear e3); omega)
    have hm1' : Hd _ := hm1
    clear hm1
    repeat' (first | with_reducible refine OutOK.done ?_ | refine thenQ_n ?_ | refine thenQ_r ?_ | refine thenQ_e ?_ | refine AW.seq ?_ | refine AW.reg tok (by simp [*]; rfl) ?_ | refine AW.ifB (by simp [*]; rfl) ?_ | refine IfG.t ?_ | refine IfG.f ?_ | ((first | refine IfG.p (fun hg => ?_) (fun hg => ?_) | refine IfG.n (fun hg => ?_) (fun hg => ?_) | refine OutOK.gateP (fun hg => ?_) (fun hg => ?_) | refine OutOK.gateN (fun hg => ?_) (fun hg => ?_) | refine IfG.g (fun hg => ?_) (fun hg => ?_) | refine OutOK.gate (fun hg => ?_) (fun hg => ?_)) <;> (try (have hg' := hg; simp at hg'))) | refine OutOK.run (by simp [*]; rfl) ?_ | refine AW.ret ?_ | refine AW.skip ?_ | refine AW.exit ?_ | refine fin_r ?_ | refine fin_n ?_ | refine AW.block ?_ | refine blockQ_n ?_ | refine blockQ_r ?_ | refine blockQ_e ?_ | refine blockQ_o rfl ?_)
    refine OutOK.callX [] (by simp [*]; rfl) (by simp [*]; rfl) (by simp [*]; rfl) hb108 (by apply cq <;> first | assumption | exact Hd.out (by assumption) | ((try clear e1); (try clear e2); (try clear e3); omega)) ⟨by simp [*], by simp [*], by simp [*]⟩ (by simp [*]) (fun x hx => ?_)
    obtain ⟨a3, s3, T⟩ := x
    simp only at hx
    obtain ⟨r1, r2, r3⟩ := hx
    refine CallX.mk' ⟨by simp [*], by simp [*], by simp [*], by simp [*], by simp [*]⟩ (by simp [*]; rfl) ?_
    repeat' (first | with_reducible refine OutOK.done ?_ | refine thenQ_n ?_ | refine thenQ_r ?_ | refine thenQ_e ?_ | refine AW.seq ?_ | refine AW.reg tok (by simp [*]; rfl) ?_ | refine AW.ifB (by simp [*]; rfl) ?_ | refine IfG.t ?_ | refine IfG.f ?_ | ((first | refine IfG.p (fun hg => ?_) (fun hg => ?_) | refine IfG.n (fun hg => ?_) (fun hg => ?_) | refine OutOK.gateP (fun hg => ?_) (fun hg => ?_) | refine OutOK.gateN (fun hg => ?_) (fun hg => ?_) | refine IfG.g (fun hg => ?_) (fun hg => ?_) | refine OutOK.gate (fun hg => ?_) (fun hg => ?_)) <;> (try (have hg' := hg; simp at hg'))) | refine OutOK.run (by simp [*]; rfl) ?_ | refine AW.ret ?_ | refine AW.skip ?_ | refine AW.exit ?_ | refine fin_r ?_ | refine fin_n ?_ | refine AW.block ?_ | refine blockQ_n ?_ | refine blockQ_r ?_ | refine blockQ_e ?_ | refine blockQ_o rfl ?_)
    refine AW.loopS (α := Int × Int × List Int × Nat) (fun q => a3 ≤ q.1 ∧ q.1 ≤ a3 + 4 * (q.2.2.2 : Int) ∧ q.2.2.2 ≤ N ∧ Hd (q.2.2.1.length = N)) (fun q => [(0, .pt 100000000 [] 0), (1, .c (.sc (.int .i64 (N : Int)))), (5, .rf 11000 []), (6, .c (.sc (.int .i64 (m : Int)))), (7, .c (.sc (.int .i64 (T : Int)))), (8, .rf 22000 []), (9, .c (.sc (.int .i64 (q.2.2.2 : Int))))])
      (fun q => [(11000, .sv (.sl false 5 (edts false l))), (22000, .sv (.sl false 1 (ints q.2.2.1))), (100000000, .bx (curP code q.1 q.2.1))]) (fun q => N - q.2.2.2) (a3, s3, List.replicate N 0, 0) ⟨by simp, by simp only; ((try clear e1); (try clear e2); (try clear e3); omega), by simp only; ((try clear e1); (try clear e2); (try clear e3); omega), (show (List.replicate N (0 : Int)).length = N by simp)⟩ [] (by simp) ⟨by simp, by simp, by simp⟩ ?_
    rintro ⟨a4, s4, sn, t⟩ ⟨t1, t2, t3, t4⟩
    simp only at t1 t2 t3 t4
    rcases Nat.lt_or_ge t N with htN | htN
    · have e2 : wrap64 ((t : Int) + 1) = ((t + 1 : Nat) : Int) := by rw [w64 (by ((try clear e1); (try clear e2); (try clear e3); omega)) (by ((try clear e1); (try clear e2); (try clear e3); omega))]; omega
      have ct := c_spec_l22Total l (t : Int) (by ((try clear e1); (try clear e2); (try clear e3); omega))
      have hcn := cntE_le l (t : Int)
      have htI : (t : Int) < (N : Int) := by ((try clear e1); (try clear e2); (try clear e3); omega)
      have hts : t < sn.length := by have := t4.out; ((try clear e1); (try clear e2); (try clear e3); omega)
      generalize cntE l (t : Int) = C at *
      rcases Nat.lt_or_ge 0 C with hC | hC
      · have cp := fun (a s : Int) h0 h1 => x_pickN4 code a s (C : Int) h0 h1 hc hb (by ((try clear e1); (try clear e2); (try clear e3); omega)) (by ((try clear e1); (try clear e2); (try clear e3); omega))
        repeat' (first | with_reducible refine OutOK.done ?_ | refine thenQ_n ?_ | refine thenQ_r ?_ | refine thenQ_e ?_ | refine AW.seq ?_ | refine AW.reg tok (by simp [*]; rfl) ?_ | refine AW.ifB (by simp [*]; rfl) ?_ | refine IfG.t ?_ | refine IfG.f ?_ | ((first | refine IfG.p (fun hg => ?_) (fun hg => ?_) | refine IfG.n (fun hg => ?_) (fun hg => ?_) | refine OutOK.gateP (fun hg => ?_) (fun hg => ?_) | refine OutOK.gateN (fun hg => ?_) (fun hg => ?_) | refine IfG.g (fun hg => ?_) (fun hg => ?_) | refine OutOK.gate (fun hg => ?_) (fun hg => ?_)) <;> (try (have hg' := hg; simp at hg'))) | (refine OutOK.callF [] (by simp [*]; rfl) (by simp [*]; rfl) (by simp [*]; rfl) hb90 (by apply ct <;> first | assumption | exact Hd.out (by assumption) | ((try clear e1); (try clear e2); (try clear e3); omega)) ⟨by simp [*], by simp [*], by simp [*], by simp [*], by simp [*]⟩ (by simp [*]) (by simp [*]; rfl) ?_) | refine OutOK.run (by simp [*]; rfl) ?_ | refine AW.ret ?_ | refine AW.skip ?_ | refine AW.exit ?_ | refine fin_r ?_ | refine fin_n ?_ | refine AW.block ?_ | refine blockQ_n ?_ | refine blockQ_r ?_ | refine blockQ_e ?_ | refine blockQ_o rfl ?_)
        refine OutOK.callX [] (by simp [*]; rfl) (by simp [*]; rfl) (by simp [*]; rfl) hb106 (by apply x_spec_l1Cur_one <;> first | assumption | exact Hd.out (by assumption) | ((try clear e1); (try clear e2); (try clear e3); omega)) ⟨by simp [*], by simp [*], by simp [*]⟩ (by simp [*]) (fun x hx => ?_)
        obtain ⟨a5, s5, b⟩ := x
        simp only at hx
        obtain ⟨u1, u2⟩ := hx
        cases b
        · refine CallX.mk' ⟨by simp [*], by simp [*], by simp [*], by simp [*], by simp [*]⟩ (by simp [*]; rfl) ?_
          repeat' (first | with_reducible refine OutOK.done ?_ | refine thenQ_n ?_ | refine thenQ_r ?_ | refine thenQ_e ?_ | refine AW.seq ?_ | refine AW.reg tok (by simp [*]; rfl) ?_ | refine AW.ifB (by simp [*]; rfl) ?_ | refine IfG.t ?_ | refine IfG.f ?_ | ((first | refine IfG.p (fun hg => ?_) (fun hg => ?_) | refine IfG.n (fun hg => ?_) (fun hg => ?_) | refine OutOK.gateP (fun hg => ?_) (fun hg => ?_) | refine OutOK.gateN (fun hg => ?_) (fun hg => ?_) | refine IfG.g (fun hg => ?_) (fun hg => ?_) | refine OutOK.gate (fun hg => ?_) (fun hg => ?_)) <;> (try (have hg' := hg; simp at hg'))) | refine OutOK.run (by simp [*]; rfl) ?_ | refine AW.ret ?_ | refine AW.skip ?_ | refine AW.exit ?_ | refine fin_r ?_ | refine fin_n ?_ | refine AW.block ?_ | refine blockQ_n ?_ | refine blockQ_r ?_ | refine blockQ_e ?_ | refine blockQ_o rfl ?_)
          exact ⟨(a5, s5, sn, t + 1), ⟨by simp only; ((try clear e1); (try clear e2); (try clear e3); omega), by simp only; ((try clear e1); (try clear e2); (try clear e3); omega), by simp only; ((try clear e1); (try clear e2); (try clear e3); omega), t4⟩, ⟨[], by simp, by simp, by simp, by simp⟩, by simp only; ((try clear e1); (try clear e2); (try clear e3); omega)⟩
        · refine CallX.mk' ⟨by simp [*], by simp [*], by simp [*], by simp [*], by simp [*]⟩ (by simp [*]; rfl) ?_
          repeat' (first | with_reducible refine OutOK.done ?_ | refine thenQ_n ?_ | refine thenQ_r ?_ | refine thenQ_e ?_ | refine AW.seq ?_ | refine AW.reg tok (by simp [*]; rfl) ?_ | refine AW.ifB (by simp [*]; rfl) ?_ | refine IfG.t ?_ | refine IfG.f ?_ | ((first | refine IfG.p (fun hg => ?_) (fun hg => ?_) | refine IfG.n (fun hg => ?_) (fun hg => ?_) | refine OutOK.gateP (fun hg => ?_) (fun hg => ?_) | refine OutOK.gateN (fun hg => ?_) (fun hg => ?_) | refine IfG.g (fun hg => ?_) (fun hg => ?_) | refine OutOK.gate (fun hg => ?_) (fun hg => ?_)) <;> (try (have hg' := hg; simp at hg'))) | refine OutOK.run (by simp [*]; rfl) ?_ | refine AW.ret ?_ | refine AW.skip ?_ | refine AW.exit ?_ | refine fin_r ?_ | refine fin_n ?_ | refine AW.block ?_ | refine blockQ_n ?_ | refine blockQ_r ?_ | refine blockQ_e ?_ | refine blockQ_o rfl ?_)
          refine OutOK.callX [] (by simp [*]; rfl) (by simp [*]; rfl) (by simp [*]; rfl) hb108 (by apply cp <;> first | assumption | exact Hd.out (by assumption) | ((try clear e1); (try clear e2); (try clear e3); omega)) ⟨by simp [*], by simp [*], by simp [*]⟩ (by simp [*]) (fun x hx => ?_)
          obtain ⟨a6, s6, k⟩ := x
          simp only at hx
          obtain ⟨v1, v2, v3⟩ := hx
          obtain ⟨w, e3⟩ : ∃ w, wrap64 (1 + (k : Int)) = w := ⟨_, rfl⟩
          refine CallX.mk' ⟨by simp [*], by simp [*], by simp [*], by simp [*], by simp [*]⟩ (by simp [*]; rfl) ?_
          repeat' (first | with_reducible refine OutOK.done ?_ | refine thenQ_n ?_ | refine thenQ_r ?_ | refine thenQ_e ?_ | refine AW.seq ?_ | refine AW.reg tok (by simp [*]; rfl) ?_ | refine AW.ifB (by simp [*]; rfl) ?_ | refine IfG.t ?_ | refine IfG.f ?_ | ((first | refine IfG.p (fun hg => ?_) (fun hg => ?_) | refine IfG.n (fun hg => ?_) (fun hg => ?_) | refine OutOK.gateP (fun hg => ?_) (fun hg => ?_) | refine OutOK.gateN (fun hg => ?_) (fun hg => ?_) | refine IfG.g (fun hg => ?_) (fun hg => ?_) | refine OutOK.gate (fun hg => ?_) (fun hg => ?_)) <;> (try (have hg' := hg; simp at hg'))) | refine OutOK.run (by simp [*]; rfl) ?_ | refine AW.ret ?_ | refine AW.skip ?_ | refine AW.exit ?_ | refine fin_r ?_ | refine fin_n ?_ | refine AW.block ?_ | refine blockQ_n ?_ | refine blockQ_r ?_ | refine blockQ_e ?_ | refine blockQ_o rfl ?_)
          exact ⟨(a6, s6, sn.set t w, t + 1), ⟨by simp only; ((try clear e1); (try clear e2); (try clear e3); omega), by simp only; ((try clear e1); (try clear e2); (try clear e3); omega), by simp only; ((try clear e1); (try clear e2); (try clear e3); omega), (show (sn.set t w).length = N by rw [List.length_set]; exact t4.out)⟩, ⟨[], by simp, by simp, by simp, by simp⟩, by simp only; ((try clear e1); (try clear e2); (try clear e3); omega)⟩
      · have hC0 : C = 0 := by ((try clear e1); (try clear e2); (try clear e3); omega)
        subst hC0
        repeat' (first | with_reducible refine OutOK.done ?_ | refine thenQ_n ?_ | refine thenQ_r ?_ | refine thenQ_e ?_ | refine AW.seq ?_ | refine AW.reg tok (by simp [*]; rfl) ?_ | refine AW.ifB (by simp [*]; rfl) ?_ | refine IfG.t ?_ | refine IfG.f ?_ | ((first | refine IfG.p (fun hg => ?_) (fun hg => ?_) | refine IfG.n (fun hg => ?_) (fun hg => ?_) | refine OutOK.gateP (fun hg => ?_) (fun hg => ?_) | refine OutOK.gateN (fun hg => ?_) (fun hg => ?_) | refine IfG.g (fun hg => ?_) (fun hg => ?_) | refine OutOK.gate (fun hg => ?_) (fun hg => ?_)) <;> (try (have hg' := hg; simp at hg'))) | (refine OutOK.callF [] (by simp [*]; rfl) (by simp [*]; rfl) (by simp [*]; rfl) hb90 (by apply ct <;> first | assumption | exact Hd.out (by assumption) | ((try clear e1); (try clear e2); (try clear e3); omega)) ⟨by simp [*], by simp [*], by simp [*], by simp [*], by simp [*]⟩ (by simp [*]) (by simp [*]; rfl) ?_) | refine OutOK.run (by simp [*]; rfl) ?_ | refine AW.ret ?_ | refine AW.skip ?_ | refine AW.exit ?_ | refine fin_r ?_ | refine fin_n ?_ | refine AW.block ?_ | refine blockQ_n ?_ | refine blockQ_r ?_ | refine blockQ_e ?_ | refine blockQ_o rfl ?_)
        exact ⟨(a4, s4, sn, t + 1), ⟨by simp only; ((try clear e1); (try clear e2); (try clear e3); omega), by simp only; ((try clear e1); (try clear e2); (try clear e3); omega), by simp only; ((try clear e1); (try clear e2); (try clear e3); omega), t4⟩, ⟨[], by simp, by simp, by simp, by simp⟩, by simp only; ((try clear e1); (try clear e2); (try clear e3); omega)⟩
    · have htI : ¬ (t : Int) < (N : Int) := by ((try clear e1); (try clear e2); (try clear e3); omega)
      repeat' (first | with_reducible refine OutOK.done ?_ | refine thenQ_n ?_ | refine thenQ_r ?_ | refine thenQ_e ?_ | refine AW.seq ?_ | refine AW.reg tok (by simp [*]; rfl) ?_ | refine AW.ifB (by simp [*]; rfl) ?_ | refine IfG.t ?_ | refine IfG.f ?_ | ((first | refine IfG.p (fun hg => ?_) (fun hg => ?_) | refine IfG.n (fun hg => ?_) (fun hg => ?_) | refine OutOK.gateP (fun hg => ?_) (fun hg => ?_) | refine OutOK.gateN (fun hg => ?_) (fun hg => ?_) | refine IfG.g (fun hg => ?_) (fun hg => ?_) | refine OutOK.gate (fun hg => ?_) (fun hg => ?_)) <;> (try (have hg' := hg; simp at hg'))) | refine OutOK.run (by simp [*]; rfl) ?_ | refine AW.ret ?_ | refine AW.skip ?_ | refine AW.exit ?_ | refine fin_r ?_ | refine fin_n ?_ | refine AW.block ?_ | refine blockQ_n ?_ | refine blockQ_r ?_ | refine blockQ_e ?_ | refine blockQ_o rfl ?_)
      refine OutOK.callX [false, true] (by simp [*]; rfl) (by simp [*]; rfl) (by simp [*]; rfl) hb135 (by apply cI <;> first | assumption | exact Hd.out (by assumption) | ((try clear e1); (try clear e2); (try clear e3); omega)) ⟨by simp [*], by simp [*], by simp [*]⟩ (by simp [*]) (fun x hx => ?_)
      obtain ⟨a5, s5, it⟩ := x
      simp only at hx
      obtain ⟨u1, u2, u3⟩ := hx
      refine CallX.mk' ⟨by simp [*], by simp [*], by simp [*], by simp [*], by simp [*]⟩ (by simp [*]; rfl) ?_
      repeat' (first | with_reducible refine OutOK.done ?_ | refine thenQ_n ?_ | refine thenQ_r ?_ | refine thenQ_e ?_ | refine AW.seq ?_ | refine AW.reg tok (by simp [*]; rfl) ?_ | refine AW.ifB (by simp [*]; rfl) ?_ | refine IfG.t ?_ | refine IfG.f ?_ | ((first | refine IfG.p (fun hg => ?_) (fun hg => ?_) | refine IfG.n (fun hg => ?_) (fun hg => ?_) | refine OutOK.gateP (fun hg => ?_) (fun hg => ?_) | refine OutOK.gateN (fun hg => ?_) (fun hg => ?_) | refine IfG.g (fun hg => ?_) (fun hg => ?_) | refine OutOK.gate (fun hg => ?_) (fun hg => ?_)) <;> (try (have hg' := hg; simp at hg'))) | refine OutOK.run (by simp [*]; rfl) ?_ | refine AW.ret ?_ | refine AW.skip ?_ | refine AW.exit ?_ | refine fin_r ?_ | refine fin_n ?_ | refine AW.block ?_ | refine blockQ_n ?_ | refine blockQ_r ?_ | refine blockQ_e ?_ | refine blockQ_o rfl ?_)
      refine OutOK.callX [] (by simp [*]; rfl) (by simp [*]; rfl) (by simp [*]; rfl) hb136 (by apply cXx <;> first | assumption | exact Hd.out (by assumption) | ((try clear e1); (try clear e2); (try clear e3); omega)) ⟨by simp [*], by simp [*], by simp [*]⟩ (by simp [*]) (fun x hx => ?_)
      refine CallX.mk' ⟨by simp [*], by simp [*], by simp [*], by simp [*], by simp [*]⟩ (by simp [*]; rfl) ?_
      repeat' (first | with_reducible refine OutOK.done ?_ | refine thenQ_n ?_ | refine thenQ_r ?_ | refine thenQ_e ?_ | refine AW.seq ?_ | refine AW.reg tok (by simp [*]; rfl) ?_ | refine AW.ifB (by simp [*]; rfl) ?_ | refine IfG.t ?_ | refine IfG.f ?_ | ((first | refine IfG.p (fun hg => ?_) (fun hg => ?_) | refine IfG.n (fun hg => ?_) (fun hg => ?_) | refine OutOK.gateP (fun hg => ?_) (fun hg => ?_) | refine OutOK.gateN (fun hg => ?_) (fun hg => ?_) | refine IfG.g (fun hg => ?_) (fun hg => ?_) | refine OutOK.gate (fun hg => ?_) (fun hg => ?_)) <;> (try (have hg' := hg; simp at hg'))) | refine OutOK.run (by simp [*]; rfl) ?_ | refine AW.ret ?_ | refine AW.skip ?_ | refine AW.exit ?_ | refine fin_r ?_ | refine fin_n ?_ | refine AW.block ?_ | refine blockQ_n ?_ | refine blockQ_r ?_ | refine blockQ_e ?_ | refine blockQ_o rfl ?_)
      refine OutOK.callX [false, true] (by simp [*]; rfl) (by simp [*]; rfl) (by simp [*]; rfl) hb135 (by apply cT <;> first | assumption | exact Hd.out (by assumption) | ((try clear e1); (try clear e2); (try clear e3); omega)) ⟨by simp [*], by simp [*], by simp [*]⟩ (by simp [*]) (fun x hx => ?_)
      obtain ⟨a6, s6, tx⟩ := x
      simp only at hx
      obtain ⟨v1, v2, v3⟩ := hx
      have hck : ∀ e ∈ l, e.ck.length = N := fun e he => (q5.out e he).1
      have hmk := mkN_ck (T := T) (seen := sn) (item := it) (text := tx) hck
      have cm := c_spec_l22Make l N T sn it tx (by ((try clear e1); (try clear e2); (try clear e3); omega)) hN (by ((try clear e1); (try clear e2); (try clear e3); omega)) t4.out hck (by have := cntE_le l (T : Int); ((try clear e1); (try clear e2); (try clear e3); omega))
      have hfin : Hd (HOK N (putL l (mkN l N T sn it tx))) := HOK_put q5.out ⟨hmk, u3, v3⟩
      have hlen : Hd ((putL l (mkN l N T sn it tx)).length = l.length + 1) := putL_len _ _
      have cp := c_spec_l22Put l (mkN l N T sn it tx) (by ((try clear e1); (try clear e2); (try clear e3); omega)) (fun e he => by have := hck e he; ((try clear e1); (try clear e2); (try clear e3); omega)) (by ((try clear e1); (try clear e2); (try clear e3); omega))
      clear hck hmk
      generalize putL l (mkN l N T sn it tx) = PL at *
      generalize mkN l N T sn it tx = M at *
      obtain ⟨d1, d2, d3, d4, d5⟩ := M
      refine CallX.mk' ⟨by simp [*], by simp [*], by simp [*], by simp [*], by simp [*]⟩ (by simp [*]; rfl) ?_
      repeat' (first | with_reducible refine OutOK.done ?_ | refine thenQ_n ?_ | refine thenQ_r ?_ | refine thenQ_e ?_ | refine AW.seq ?_ | refine AW.reg tok (by simp [*]; rfl) ?_ | refine AW.ifB (by simp [*]; rfl) ?_ | refine IfG.t ?_ | refine IfG.f ?_ | ((first | refine IfG.p (fun hg => ?_) (fun hg => ?_) | refine IfG.n (fun hg => ?_) (fun hg => ?_) | refine OutOK.gateP (fun hg => ?_) (fun hg => ?_) | refine OutOK.gateN (fun hg => ?_) (fun hg => ?_) | refine IfG.g (fun hg => ?_) (fun hg => ?_) | refine OutOK.gate (fun hg => ?_) (fun hg => ?_)) <;> (try (have hg' := hg; simp at hg'))) | (refine OutOK.callF [] (by simp [*]; rfl) (by simp [*]; rfl) (by simp [*]; rfl) hb103 (by apply cm <;> first | assumption | exact Hd.out (by assumption) | ((try clear e1); (try clear e2); (try clear e3); omega)) ⟨by simp [*], by simp [*], by simp [*], by simp [*], by simp [*]⟩ (by simp [*]) (by simp [*]; rfl) ?_) | (refine OutOK.callF [] (by simp [*]; rfl) (by simp [*]; rfl) (by simp [*]; rfl) hb100 (by apply cp <;> first | assumption | exact Hd.out (by assumption) | ((try clear e1); (try clear e2); (try clear e3); omega)) ⟨by simp [*], by simp [*], by simp [*], by simp [*], by simp [*]⟩ (by simp [*]) (by simp [*]; rfl) ?_) | refine OutOK.run (by simp [*]; rfl) ?_ | refine AW.ret ?_ | refine AW.skip ?_ | refine AW.exit ?_ | refine fin_r ?_ | refine fin_n ?_ | refine AW.block ?_ | refine blockQ_n ?_ | refine blockQ_r ?_ | refine blockQ_e ?_ | refine blockQ_o rfl ?_)
      exact ⟨(a6, s6, PL, m1), ⟨by simp only; ((try clear e1); (try clear e2); (try clear e3); omega), by have := hm1'.out; simp only; ((try clear e1); (try clear e2); (try clear e3); omega), by have := hm1'.out; simp only; ((try clear e1); (try clear e2); (try clear e3); omega), by have := hm1'.out; have := hlen.out; simp only; ((try clear e1); (try clear e2); (try clear e3); omega), hfin⟩, ⟨[(56000, 11000)], by simp, by simp, by simp, by simp⟩, by have := hm1'.out; simp only; ((try clear e1); (try clear e2); (try clear e3); omega)⟩
  · have hn0 : m = 0 := by ((try clear e1); (try clear e2); (try clear e3); omega)
    subst hn0
    repeat' (first | with_reducible refine OutOK.done ?_ | refine thenQ_n ?_ | refine thenQ_r ?_ | refine thenQ_e ?_ | refine AW.seq ?_ | refine AW.reg tok (by simp [*]; rfl) ?_ | refine AW.ifB (by simp [*]; rfl) ?_ | refine IfG.t ?_ | refine IfG.f ?_ | ((first | refine IfG.p (fun hg => ?_) (fun hg => ?_) | refine IfG.n (fun hg => ?_) (fun hg => ?_) | refine OutOK.gateP (fun hg => ?_) (fun hg => ?_) | refine OutOK.gateN (fun hg => ?_) (fun hg => ?_) | refine IfG.g (fun hg => ?_) (fun hg => ?_) | refine OutOK.gate (fun hg => ?_) (fun hg => ?_)) <;> (try (have hg' := hg; simp at hg'))) | refine OutOK.run (by simp [*]; rfl) ?_ | refine AW.ret ?_ | refine AW.skip ?_ | refine AW.exit ?_ | refine fin_r ?_ | refine fin_n ?_ | refine AW.block ?_ | refine blockQ_n ?_ | refine blockQ_r ?_ | refine blockQ_e ?_ | refine blockQ_o rfl ?_)
    exact ⟨(a2, s2, l), ⟨by simp only; ((try clear e1); (try clear e2); (try clear e3); omega), by simp only; ((try clear e1); (try clear e2); (try clear e3); omega), by simp only; ((try clear e1); (try clear e2); (try clear e3); omega), q5.out⟩, by simp [Try.f107]⟩
end Go.Proofs.Ytbofobjofngoeaa.EngS

