-- Written by this session's texts and program for this claim. Lean checks it.
import Derived.Test.YtbofobjofngoeaaVFnExactCausalOrder4
set_option autoImplicit true
set_option relaxedAutoImplicit true
set_option linter.unusedSimpArgs false
set_option linter.unusedVariables false
set_option maxHeartbeats 4000000
set_option maxRecDepth 100000
namespace Go.Proofs.Ytbofobjofngoeaa.EngS
open Go Go.Proofs Go.Eng Go.RowKit
attribute [local irreducible] Go.RowKit.wrap64
def Ih2Q (l : List Edt) (n : Int) (i : Nat) (h : i < l.length) (e : Exit) (st : St) : Prop :=
  (e = .ret ∧ ¬ (∀ t < l[i].ck.length, inR 0 (cntE l (t : Int)) (ckAt l[i].ck (t : Int)) = true) ∧ FinP T Try.f26.results.toList [.v (.sl true 5 (edts true l)), int n] [.x, .x] [boo false] st) ∨
  (e = .normal ∧ (∀ t < l[i].ck.length, inR 0 (cntE l (t : Int)) (ckAt l[i].ck (t : Int)) = true) ∧ LessL st [(0, .c (.sl true 5 (edts true l))), (1, .c (.sc (.int .i64 n))), (5, .rf 25000 []), (100, .c (.sl true 5 (edts true l))), (101, .c (.sc (.int .i64 (l.length : Int)))), (102, .c (.sc (.int .i64 ((i + 1 : Nat) : Int))))] [(25000, .sv (.sl false 1 (ints (cts l n l.length))))])
theorem w_ih2 (l : List Edt) (n : Int) (i : Nat) (h : i < l.length) (hl : l.length ≤ 24) (h1 : 1 ≤ n) (h3 : n ≤ 3) (hln : (l[i].ck.length : Int) = n) : AW Try.prog 152 (cAt Try.f26 [2, 2, 2, 2, 1, 2, 5, 7]) (mk [(0, .c (.sl true 5 (edts true l))), (1, .c (.sc (.int .i64 n))), (5, .rf 25000 []), (100, .c (.sl true 5 (edts true l))), (101, .c (.sc (.int .i64 (l.length : Int)))), (102, .c (.sc (.int .i64 (i : Int))))] [(25000, .sv (.sl false 1 (ints (cts l n l.length))))]) (Ih2Q l n i h) := by
  have e1 : wrap64 ((i : Int) + 1) = ((i + 1 : Nat) : Int) := by rw [w64 (by omega) (by omega)]; omega
  have hat : Hd (∀ t (h : t < (cts l n l.length).length), (cts l n l.length)[t] = ((cntE l (t : Int) : Nat) : Int)) := fun t h => by rw [cts_at, List.take_length]
  have hcl : Hd ((cts l n l.length).length = n.toNat) := cts_len _ _ _
  have hck3 : l[i].ck.length ≤ 3 := by omega
  have hln' : Hd _ := hln
  clear hln
  generalize hcts : cts l n l.length = cl at *
  have hcts' : Hd _ := hcts
  clear hcts
  repeat' (first | with_reducible refine OutOK.done ?_ | refine thenQ_n ?_ | refine thenQ_r ?_ | refine thenQ_e ?_ | refine AW.seq ?_ | refine AW.dreg tok mixed [15, 25, 26, 27, 28]  [(0, false), (2, false), (3, false), (1, false), (4, false), (5, false), (6, false), (7, false), (8, false), (9, false), (10, false), (11, false), (12, false), (13, false), (14, false), (15, true), (16, false), (17, false), (18, false), (19, false), (20, false), (21, false), (23, false), (24, false), (22, false), (25, true), (26, true), (27, true), (28, true), (29, false), (30, false)] (by decide +kernel) rfl (by simp [*]; rfl) ?_ | refine AW.dreg tok mixed [9, 13]  [(0, false), (3, false), (1, false), (2, false), (4, false), (5, false), (6, false), (8, false), (12, false), (7, false), (9, true), (10, false), (11, false), (13, true), (14, false), (15, false), (16, false), (17, false), (18, false), (19, false), (20, false), (21, false), (22, false), (23, false), (24, false), (25, false), (26, false), (27, false)] (by decide +kernel) rfl (by simp [*]; rfl) ?_ | refine AW.reg tok (by simp [*]; rfl) ?_ | refine AW.ifB (by simp [*]; rfl) ?_ | refine IfG.t ?_ | refine IfG.f ?_ | (refine IfG.p (fun hg => ?_) (fun hg => ?_) <;> (try (have hg' := hg; simp at hg'))) | (refine IfG.n (fun hg => ?_) (fun hg => ?_) <;> (try (have hg' := hg; simp at hg'))) | (refine OutOK.gateP (fun hg => ?_) (fun hg => ?_) <;> (try (have hg' := hg; simp at hg'))) | (refine OutOK.gateN (fun hg => ?_) (fun hg => ?_) <;> (try (have hg' := hg; simp at hg'))) | (refine IfG.g (fun hg => ?_) (fun hg => ?_) <;> (try (have hg' := hg; simp at hg'))) | (refine OutOK.gate (fun hg => ?_) (fun hg => ?_) <;> (try (have hg' := hg; simp at hg'))) | refine OutOK.run (by simp [*]; rfl) ?_ | refine AW.ret ?_ | refine AW.skip ?_ | refine AW.exit ?_ | refine fin_r ?_ | refine fin_n ?_ | refine AW.block ?_ | refine blockQ_n ?_ | refine blockQ_r ?_ | refine blockQ_e ?_ | refine blockQ_o rfl ?_)
  refine AW.loopL (α := Nat) (fun t => t ≤ l[i].ck.length ∧ Hd (∀ j < t, inR 0 (cntE l (j : Int)) (ckAt l[i].ck (j : Int)) = true)) (fun t => [(0, .c (.sl true 5 (edts true l))), (1, .c (.sc (.int .i64 n))), (5, .rf 25000 []), (100, .c (.sl true 5 (edts true l))), (101, .c (.sc (.int .i64 (l.length : Int)))), (102, .c (.sc (.int .i64 (i : Int)))), (107, .c (.sl true 1 (ints l[i].ck))), (108, .c (.sc (.int .i64 (l[i].ck.length : Int)))), (109, .c (.sc (.int .i64 (t : Int))))]) (fun _ => [(25000, .sv (.sl false 1 (ints cl)))]) (fun t => l[i].ck.length - t) 0 ⟨Nat.zero_le _, fun j hj => by omega⟩ ⟨by simp, by simp, by simp⟩ ?_
  rintro t ⟨ht, hs⟩
  rcases Nat.lt_or_ge t l[i].ck.length with htl | htl
  · have e2 : wrap64 ((t : Int) + 1) = ((t + 1 : Nat) : Int) := by rw [w64 (by omega) (by omega)]; omega
    have htc : t < cl.length := by have := hcl.out; have := hln'.out; omega
    have h2 := hat.out t htc
    have hca : Hd (ckAt l[i].ck (t : Int) = l[i].ck[t]) := by simp [Hd, ckAt, htl]
    have hR0 : Hd (inR 0 (cntE l (t : Int)) (ckAt l[i].ck (t : Int)) = inR 0 (cntE l (t : Int)) l[i].ck[t]) := by rw [Hd, hca.out]
    generalize hcn : cntE l (t : Int) = c at *
    cases hR : inR 0 (c : Int) l[i].ck[t] with
    | false =>
      have hb : Hd (¬ (∀ t < l[i].ck.length, inR 0 (cntE l (t : Int)) (ckAt l[i].ck (t : Int)) = true)) := fun hh => by have := hh t htl; rw [hcn, hR0.out, hR] at this; cases this
      clear hcn
      repeat' (first | with_reducible refine OutOK.done ?_ | refine thenQ_n ?_ | refine thenQ_r ?_ | refine thenQ_e ?_ | refine AW.seq ?_ | refine AW.dreg tok mixed [15, 25, 26, 27, 28]  [(0, false), (2, false), (3, false), (1, false), (4, false), (5, false), (6, false), (7, false), (8, false), (9, false), (10, false), (11, false), (12, false), (13, false), (14, false), (15, true), (16, false), (17, false), (18, false), (19, false), (20, false), (21, false), (23, false), (24, false), (22, false), (25, true), (26, true), (27, true), (28, true), (29, false), (30, false)] (by decide +kernel) rfl (by simp [*]; rfl) ?_ | refine AW.dreg tok mixed [9, 13]  [(0, false), (3, false), (1, false), (2, false), (4, false), (5, false), (6, false), (8, false), (12, false), (7, false), (9, true), (10, false), (11, false), (13, true), (14, false), (15, false), (16, false), (17, false), (18, false), (19, false), (20, false), (21, false), (22, false), (23, false), (24, false), (25, false), (26, false), (27, false)] (by decide +kernel) rfl (by simp [*]; rfl) ?_ | refine AW.reg tok (by simp [*]; rfl) ?_ | refine AW.ifB (by simp [*]; rfl) ?_ | refine IfG.t ?_ | refine IfG.f ?_ | (refine IfG.p (fun hg => ?_) (fun hg => ?_) <;> (try (have hg' := hg; simp at hg'))) | (refine IfG.n (fun hg => ?_) (fun hg => ?_) <;> (try (have hg' := hg; simp at hg'))) | (refine OutOK.gateP (fun hg => ?_) (fun hg => ?_) <;> (try (have hg' := hg; simp at hg'))) | (refine OutOK.gateN (fun hg => ?_) (fun hg => ?_) <;> (try (have hg' := hg; simp at hg'))) | (refine IfG.g (fun hg => ?_) (fun hg => ?_) <;> (try (have hg' := hg; simp at hg'))) | (refine OutOK.gate (fun hg => ?_) (fun hg => ?_) <;> (try (have hg' := hg; simp at hg'))) | (refine OutOK.callF [] (by simp [*]; rfl) (by simp [*]; rfl) (by simp [*]; rfl) hb59 (by apply c_impl_within <;> first | assumption | exact Hd.out (by assumption) | ((try (clear e0)); (try (clear e1)); (try (clear e2)); (try (clear e3)); (try (clear e4)); (try (clear e5)); (try (clear e6)); (try (clear e7)); (try (clear e8)); (try (clear e9)); (try (clear e10)); (try (clear e11)); omega)) ⟨by simp [*], by simp [*], by simp [*], by simp [*], by simp [*]⟩ (by simp [*]) (by simp [*]; rfl) ?_) | refine OutOK.run (by simp [*]; rfl) ?_ | refine AW.ret ?_ | refine AW.skip ?_ | refine AW.exit ?_ | refine fin_r ?_ | refine fin_n ?_ | refine AW.block ?_ | refine blockQ_n ?_ | refine blockQ_r ?_ | refine blockQ_e ?_ | refine blockQ_o rfl ?_)
      exact .inl ⟨rfl, hb.out, by simp [Try.f26]⟩
    | true =>
      have hs2 : Hd (∀ j < t + 1, inR 0 (cntE l (j : Int)) (ckAt l[i].ck (j : Int)) = true) := by
        intro j hj
        rcases Nat.lt_succ_iff_lt_or_eq.1 hj with h2 | rfl
        · exact hs.out j h2
        · rw [hcn, hR0.out, hR]
      clear hcn
      repeat' (first | with_reducible refine OutOK.done ?_ | refine thenQ_n ?_ | refine thenQ_r ?_ | refine thenQ_e ?_ | refine AW.seq ?_ | refine AW.dreg tok mixed [15, 25, 26, 27, 28]  [(0, false), (2, false), (3, false), (1, false), (4, false), (5, false), (6, false), (7, false), (8, false), (9, false), (10, false), (11, false), (12, false), (13, false), (14, false), (15, true), (16, false), (17, false), (18, false), (19, false), (20, false), (21, false), (23, false), (24, false), (22, false), (25, true), (26, true), (27, true), (28, true), (29, false), (30, false)] (by decide +kernel) rfl (by simp [*]; rfl) ?_ | refine AW.dreg tok mixed [9, 13]  [(0, false), (3, false), (1, false), (2, false), (4, false), (5, false), (6, false), (8, false), (12, false), (7, false), (9, true), (10, false), (11, false), (13, true), (14, false), (15, false), (16, false), (17, false), (18, false), (19, false), (20, false), (21, false), (22, false), (23, false), (24, false), (25, false), (26, false), (27, false)] (by decide +kernel) rfl (by simp [*]; rfl) ?_ | refine AW.reg tok (by simp [*]; rfl) ?_ | refine AW.ifB (by simp [*]; rfl) ?_ | refine IfG.t ?_ | refine IfG.f ?_ | (refine IfG.p (fun hg => ?_) (fun hg => ?_) <;> (try (have hg' := hg; simp at hg'))) | (refine IfG.n (fun hg => ?_) (fun hg => ?_) <;> (try (have hg' := hg; simp at hg'))) | (refine OutOK.gateP (fun hg => ?_) (fun hg => ?_) <;> (try (have hg' := hg; simp at hg'))) | (refine OutOK.gateN (fun hg => ?_) (fun hg => ?_) <;> (try (have hg' := hg; simp at hg'))) | (refine IfG.g (fun hg => ?_) (fun hg => ?_) <;> (try (have hg' := hg; simp at hg'))) | (refine OutOK.gate (fun hg => ?_) (fun hg => ?_) <;> (try (have hg' := hg; simp at hg'))) | (refine OutOK.callF [] (by simp [*]; rfl) (by simp [*]; rfl) (by simp [*]; rfl) hb59 (by apply c_impl_within <;> first | assumption | exact Hd.out (by assumption) | ((try (clear e0)); (try (clear e1)); (try (clear e2)); (try (clear e3)); (try (clear e4)); (try (clear e5)); (try (clear e6)); (try (clear e7)); (try (clear e8)); (try (clear e9)); (try (clear e10)); (try (clear e11)); omega)) ⟨by simp [*], by simp [*], by simp [*], by simp [*], by simp [*]⟩ (by simp [*]) (by simp [*]; rfl) ?_) | refine OutOK.run (by simp [*]; rfl) ?_ | refine AW.ret ?_ | refine AW.skip ?_ | refine AW.exit ?_ | refine fin_r ?_ | refine fin_n ?_ | refine AW.block ?_ | refine blockQ_n ?_ | refine blockQ_r ?_ | refine blockQ_e ?_ | refine blockQ_o rfl ?_)
      exact ⟨t + 1, ⟨htl, hs2⟩, ⟨by simp, by simp, by simp⟩, by ((try (clear e0)); (try (clear e1)); (try (clear e2)); (try (clear e3)); (try (clear e4)); (try (clear e5)); (try (clear e6)); (try (clear e7)); (try (clear e8)); (try (clear e9)); (try (clear e10)); (try (clear e11)); omega)⟩
  · have htn : ¬ t < l[i].ck.length := by omega
    have hs2 : Hd (∀ j < l[i].ck.length, inR 0 (cntE l (j : Int)) (ckAt l[i].ck (j : Int)) = true) := fun j hj => hs.out j (by omega)
    repeat' (first | with_reducible refine OutOK.done ?_ | refine thenQ_n ?_ | refine thenQ_r ?_ | refine thenQ_e ?_ | refine AW.seq ?_ | refine AW.dreg tok mixed [15, 25, 26, 27, 28]  [(0, false), (2, false), (3, false), (1, false), (4, false), (5, false), (6, false), (7, false), (8, false), (9, false), (10, false), (11, false), (12, false), (13, false), (14, false), (15, true), (16, false), (17, false), (18, false), (19, false), (20, false), (21, false), (23, false), (24, false), (22, false), (25, true), (26, true), (27, true), (28, true), (29, false), (30, false)] (by decide +kernel) rfl (by simp [*]; rfl) ?_ | refine AW.dreg tok mixed [9, 13]  [(0, false), (3, false), (1, false), (2, false), (4, false), (5, false), (6, false), (8, false), (12, false), (7, false), (9, true), (10, false), (11, false), (13, true), (14, false), (15, false), (16, false), (17, false), (18, false), (19, false), (20, false), (21, false), (22, false), (23, false), (24, false), (25, false), (26, false), (27, false)] (by decide +kernel) rfl (by simp [*]; rfl) ?_ | refine AW.reg tok (by simp [*]; rfl) ?_ | refine AW.ifB (by simp [*]; rfl) ?_ | refine IfG.t ?_ | refine IfG.f ?_ | (refine IfG.p (fun hg => ?_) (fun hg => ?_) <;> (try (have hg' := hg; simp at hg'))) | (refine IfG.n (fun hg => ?_) (fun hg => ?_) <;> (try (have hg' := hg; simp at hg'))) | (refine OutOK.gateP (fun hg => ?_) (fun hg => ?_) <;> (try (have hg' := hg; simp at hg'))) | (refine OutOK.gateN (fun hg => ?_) (fun hg => ?_) <;> (try (have hg' := hg; simp at hg'))) | (refine IfG.g (fun hg => ?_) (fun hg => ?_) <;> (try (have hg' := hg; simp at hg'))) | (refine OutOK.gate (fun hg => ?_) (fun hg => ?_) <;> (try (have hg' := hg; simp at hg'))) | refine OutOK.run (by simp [*]; rfl) ?_ | refine AW.ret ?_ | refine AW.skip ?_ | refine AW.exit ?_ | refine fin_r ?_ | refine fin_n ?_ | refine AW.block ?_ | refine blockQ_n ?_ | refine blockQ_r ?_ | refine blockQ_e ?_ | refine blockQ_o rfl ?_)
    exact .inr ⟨rfl, hs2.out, by simp, by simp [hcts'.out], by simp⟩
def Ih3Q (l : List Edt) (n : Int) (i k : Nat) (h : i < l.length) (hk : k < l.length) (e : Exit) (st : St) : Prop :=
  (e = .ret ∧ ¬ (precE l[k] l[i] = true → precE l[i] l[k] = false ∧ noGr l[k].ck l[i].ck = true) ∧ FinP T Try.f26.results.toList [.v (.sl true 5 (edts true l)), int n] [.x, .x] [boo false] st) ∨
  (e = .normal ∧ (precE l[k] l[i] = true → precE l[i] l[k] = false ∧ noGr l[k].ck l[i].ck = true) ∧ LessL st [(0, .c (.sl true 5 (edts true l))), (1, .c (.sc (.int .i64 n))), (13, .pt 13000 []  0), (123, .c (.sl true 5 (edts true l))), (124, .c (.sc (.int .i64 (l.length : Int)))), (125, .c (.sc (.int .i64 (i : Int)))), (129, .c (.sl true 5 (edts true l))), (130, .c (.sc (.int .i64 (l.length : Int)))), (131, .c (.sc (.int .i64 ((k + 1 : Nat) : Int))))] [(13000, .bx (edtC true l[i]))])
theorem w_ih3a (l : List Edt) (n : Int) (i k : Nat) (h : i < l.length) (hk : k < l.length) (hl : l.length ≤ 24) (hli : l[i].ck.length ≤ 3) (hlk : l[k].ck.length = l[i].ck.length) (p1 : precE l[k] l[i] = false) : AW Try.prog 152 (cAt Try.f26 [2, 2, 2, 2, 2, 1, 2, 5, 7, 2, 2, 1, 5, 2, 2, 5, 7]) (mk [(0, .c (.sl true 5 (edts true l))), (1, .c (.sc (.int .i64 n))), (13, .pt 13000 []  0), (123, .c (.sl true 5 (edts true l))), (124, .c (.sc (.int .i64 (l.length : Int)))), (125, .c (.sc (.int .i64 (i : Int)))), (129, .c (.sl true 5 (edts true l))), (130, .c (.sc (.int .i64 (l.length : Int)))), (131, .c (.sc (.int .i64 (k : Int))))] [(13000, .bx (edtC true l[i]))]) (Ih3Q l n i k h hk) := by
  have e1 : wrap64 ((k : Int) + 1) = ((k + 1 : Nat) : Int) := by rw [w64 (by omega) (by omega)]; omega
  have c1 := c_impl_Precedes l[k] l[i] (by omega)
  rw [p1] at c1
  have hb : Hd ((precE l[k] l[i] = true → precE l[i] l[k] = false ∧ noGr l[k].ck l[i].ck = true)) := fun hh => by rw [p1] at hh; cases hh
  clear p1 hlk hli
  repeat' (first | with_reducible refine OutOK.done ?_ | refine thenQ_n ?_ | refine thenQ_r ?_ | refine thenQ_e ?_ | refine AW.seq ?_ | refine AW.dreg tok mixed [15, 25, 26, 27, 28]  [(0, false), (2, false), (3, false), (1, false), (4, false), (5, false), (6, false), (7, false), (8, false), (9, false), (10, false), (11, false), (12, false), (13, false), (14, false), (15, true), (16, false), (17, false), (18, false), (19, false), (20, false), (21, false), (23, false), (24, false), (22, false), (25, true), (26, true), (27, true), (28, true), (29, false), (30, false)] (by decide +kernel) rfl (by simp [*]; rfl) ?_ | refine AW.dreg tok mixed [9, 13]  [(0, false), (3, false), (1, false), (2, false), (4, false), (5, false), (6, false), (8, false), (12, false), (7, false), (9, true), (10, false), (11, false), (13, true), (14, false), (15, false), (16, false), (17, false), (18, false), (19, false), (20, false), (21, false), (22, false), (23, false), (24, false), (25, false), (26, false), (27, false)] (by decide +kernel) rfl (by simp [*]; rfl) ?_ | refine AW.reg tok (by simp [*]; rfl) ?_ | refine AW.ifB (by simp [*]; rfl) ?_ | refine IfG.t ?_ | refine IfG.f ?_ | (refine IfG.p (fun hg => ?_) (fun hg => ?_) <;> (try (have hg' := hg; simp at hg'))) | (refine IfG.n (fun hg => ?_) (fun hg => ?_) <;> (try (have hg' := hg; simp at hg'))) | (refine OutOK.gateP (fun hg => ?_) (fun hg => ?_) <;> (try (have hg' := hg; simp at hg'))) | (refine OutOK.gateN (fun hg => ?_) (fun hg => ?_) <;> (try (have hg' := hg; simp at hg'))) | (refine IfG.g (fun hg => ?_) (fun hg => ?_) <;> (try (have hg' := hg; simp at hg'))) | (refine OutOK.gate (fun hg => ?_) (fun hg => ?_) <;> (try (have hg' := hg; simp at hg'))) | (refine OutOK.callF [] (by simp [*]; rfl) (by simp [*]; rfl) (by simp [*]; rfl) hb40 (by apply c1 <;> first | assumption | exact Hd.out (by assumption) | ((try (clear e0)); (try (clear e1)); (try (clear e2)); (try (clear e3)); (try (clear e4)); (try (clear e5)); (try (clear e6)); (try (clear e7)); (try (clear e8)); (try (clear e9)); (try (clear e10)); (try (clear e11)); omega)) ⟨by simp [*], by simp [*], by simp [*], by simp [*], by simp [*]⟩ (by simp [*]) (by simp [*]; rfl) ?_) | refine OutOK.run (by simp [*]; rfl) ?_ | refine AW.ret ?_ | refine AW.skip ?_ | refine AW.exit ?_ | refine fin_r ?_ | refine fin_n ?_ | refine AW.block ?_ | refine blockQ_n ?_ | refine blockQ_r ?_ | refine blockQ_e ?_ | refine blockQ_o rfl ?_)
  exact .inr ⟨rfl, hb.out, by simp, by simp, by simp⟩
theorem w_ih3b (l : List Edt) (n : Int) (i k : Nat) (h : i < l.length) (hk : k < l.length) (hl : l.length ≤ 24) (hli : l[i].ck.length ≤ 3) (hlk : l[k].ck.length = l[i].ck.length) (p1 : precE l[k] l[i] = true) (p2 : precE l[i] l[k] = true) : AW Try.prog 152 (cAt Try.f26 [2, 2, 2, 2, 2, 1, 2, 5, 7, 2, 2, 1, 5, 2, 2, 5, 7]) (mk [(0, .c (.sl true 5 (edts true l))), (1, .c (.sc (.int .i64 n))), (13, .pt 13000 []  0), (123, .c (.sl true 5 (edts true l))), (124, .c (.sc (.int .i64 (l.length : Int)))), (125, .c (.sc (.int .i64 (i : Int)))), (129, .c (.sl true 5 (edts true l))), (130, .c (.sc (.int .i64 (l.length : Int)))), (131, .c (.sc (.int .i64 (k : Int))))] [(13000, .bx (edtC true l[i]))]) (Ih3Q l n i k h hk) := by
  have e1 : wrap64 ((k : Int) + 1) = ((k + 1 : Nat) : Int) := by rw [w64 (by omega) (by omega)]; omega
  have c1 := c_impl_Precedes l[k] l[i] (by omega)
  rw [p1] at c1
  have c2 := c_impl_Precedes l[i] l[k] (by omega)
  rw [p2] at c2
  have hb : Hd (¬ (precE l[k] l[i] = true → precE l[i] l[k] = false ∧ noGr l[k].ck l[i].ck = true)) := fun hh => by have := (hh p1).1; rw [p2] at this; cases this
  clear p1 p2 hlk hli
  repeat' (first | with_reducible refine OutOK.done ?_ | refine thenQ_n ?_ | refine thenQ_r ?_ | refine thenQ_e ?_ | refine AW.seq ?_ | refine AW.dreg tok mixed [15, 25, 26, 27, 28]  [(0, false), (2, false), (3, false), (1, false), (4, false), (5, false), (6, false), (7, false), (8, false), (9, false), (10, false), (11, false), (12, false), (13, false), (14, false), (15, true), (16, false), (17, false), (18, false), (19, false), (20, false), (21, false), (23, false), (24, false), (22, false), (25, true), (26, true), (27, true), (28, true), (29, false), (30, false)] (by decide +kernel) rfl (by simp [*]; rfl) ?_ | refine AW.dreg tok mixed [9, 13]  [(0, false), (3, false), (1, false), (2, false), (4, false), (5, false), (6, false), (8, false), (12, false), (7, false), (9, true), (10, false), (11, false), (13, true), (14, false), (15, false), (16, false), (17, false), (18, false), (19, false), (20, false), (21, false), (22, false), (23, false), (24, false), (25, false), (26, false), (27, false)] (by decide +kernel) rfl (by simp [*]; rfl) ?_ | refine AW.reg tok (by simp [*]; rfl) ?_ | refine AW.ifB (by simp [*]; rfl) ?_ | refine IfG.t ?_ | refine IfG.f ?_ | (refine IfG.p (fun hg => ?_) (fun hg => ?_) <;> (try (have hg' := hg; simp at hg'))) | (refine IfG.n (fun hg => ?_) (fun hg => ?_) <;> (try (have hg' := hg; simp at hg'))) | (refine OutOK.gateP (fun hg => ?_) (fun hg => ?_) <;> (try (have hg' := hg; simp at hg'))) | (refine OutOK.gateN (fun hg => ?_) (fun hg => ?_) <;> (try (have hg' := hg; simp at hg'))) | (refine IfG.g (fun hg => ?_) (fun hg => ?_) <;> (try (have hg' := hg; simp at hg'))) | (refine OutOK.gate (fun hg => ?_) (fun hg => ?_) <;> (try (have hg' := hg; simp at hg'))) | (refine OutOK.callF [] (by simp [*]; rfl) (by simp [*]; rfl) (by simp [*]; rfl) hb40 (by apply c1 <;> first | assumption | exact Hd.out (by assumption) | ((try (clear e0)); (try (clear e1)); (try (clear e2)); (try (clear e3)); (try (clear e4)); (try (clear e5)); (try (clear e6)); (try (clear e7)); (try (clear e8)); (try (clear e9)); (try (clear e10)); (try (clear e11)); omega)) ⟨by simp [*], by simp [*], by simp [*], by simp [*], by simp [*]⟩ (by simp [*]) (by simp [*]; rfl) ?_) | (refine OutOK.callF [] (by simp [*]; rfl) (by simp [*]; rfl) (by simp [*]; rfl) hb40 (by apply c2 <;> first | assumption | exact Hd.out (by assumption) | ((try (clear e0)); (try (clear e1)); (try (clear e2)); (try (clear e3)); (try (clear e4)); (try (clear e5)); (try (clear e6)); (try (clear e7)); (try (clear e8)); (try (clear e9)); (try (clear e10)); (try (clear e11)); omega)) ⟨by simp [*], by simp [*], by simp [*], by simp [*], by simp [*]⟩ (by simp [*]) (by simp [*]; rfl) ?_) | refine OutOK.run (by simp [*]; rfl) ?_ | refine AW.ret ?_ | refine AW.skip ?_ | refine AW.exit ?_ | refine fin_r ?_ | refine fin_n ?_ | refine AW.block ?_ | refine blockQ_n ?_ | refine blockQ_r ?_ | refine blockQ_e ?_ | refine blockQ_o rfl ?_)
  exact .inl ⟨rfl, hb.out, by simp [Try.f26]⟩
theorem w_ih3c (l : List Edt) (n : Int) (i k : Nat) (h : i < l.length) (hk : k < l.length) (hl : l.length ≤ 24) (hli : l[i].ck.length ≤ 3) (hlk : l[k].ck.length = l[i].ck.length) (p1 : precE l[k] l[i] = true) (p2 : precE l[i] l[k] = false) (p3 : noGr l[k].ck l[i].ck = false) : AW Try.prog 152 (cAt Try.f26 [2, 2, 2, 2, 2, 1, 2, 5, 7, 2, 2, 1, 5, 2, 2, 5, 7]) (mk [(0, .c (.sl true 5 (edts true l))), (1, .c (.sc (.int .i64 n))), (13, .pt 13000 []  0), (123, .c (.sl true 5 (edts true l))), (124, .c (.sc (.int .i64 (l.length : Int)))), (125, .c (.sc (.int .i64 (i : Int)))), (129, .c (.sl true 5 (edts true l))), (130, .c (.sc (.int .i64 (l.length : Int)))), (131, .c (.sc (.int .i64 (k : Int))))] [(13000, .bx (edtC true l[i]))]) (Ih3Q l n i k h hk) := by
  have e1 : wrap64 ((k : Int) + 1) = ((k + 1 : Nat) : Int) := by rw [w64 (by omega) (by omega)]; omega
  have c1 := c_impl_Precedes l[k] l[i] (by omega)
  rw [p1] at c1
  have c2 := c_impl_Precedes l[i] l[k] (by omega)
  rw [p2] at c2
  have c3 := c_impl_noGreater l[k].ck l[i].ck (by omega) (by omega)
  rw [p3] at c3
  have hb : Hd (¬ (precE l[k] l[i] = true → precE l[i] l[k] = false ∧ noGr l[k].ck l[i].ck = true)) := fun hh => by have := (hh p1).2; rw [p3] at this; cases this
  clear p1 p2 p3 hlk hli
  repeat' (first | with_reducible refine OutOK.done ?_ | refine thenQ_n ?_ | refine thenQ_r ?_ | refine thenQ_e ?_ | refine AW.seq ?_ | refine AW.dreg tok mixed [15, 25, 26, 27, 28]  [(0, false), (2, false), (3, false), (1, false), (4, false), (5, false), (6, false), (7, false), (8, false), (9, false), (10, false), (11, false), (12, false), (13, false), (14, false), (15, true), (16, false), (17, false), (18, false), (19, false), (20, false), (21, false), (23, false), (24, false), (22, false), (25, true), (26, true), (27, true), (28, true), (29, false), (30, false)] (by decide +kernel) rfl (by simp [*]; rfl) ?_ | refine AW.dreg tok mixed [9, 13]  [(0, false), (3, false), (1, false), (2, false), (4, false), (5, false), (6, false), (8, false), (12, false), (7, false), (9, true), (10, false), (11, false), (13, true), (14, false), (15, false), (16, false), (17, false), (18, false), (19, false), (20, false), (21, false), (22, false), (23, false), (24, false), (25, false), (26, false), (27, false)] (by decide +kernel) rfl (by simp [*]; rfl) ?_ | refine AW.reg tok (by simp [*]; rfl) ?_ | refine AW.ifB (by simp [*]; rfl) ?_ | refine IfG.t ?_ | refine IfG.f ?_ | (refine IfG.p (fun hg => ?_) (fun hg => ?_) <;> (try (have hg' := hg; simp at hg'))) | (refine IfG.n (fun hg => ?_) (fun hg => ?_) <;> (try (have hg' := hg; simp at hg'))) | (refine OutOK.gateP (fun hg => ?_) (fun hg => ?_) <;> (try (have hg' := hg; simp at hg'))) | (refine OutOK.gateN (fun hg => ?_) (fun hg => ?_) <;> (try (have hg' := hg; simp at hg'))) | (refine IfG.g (fun hg => ?_) (fun hg => ?_) <;> (try (have hg' := hg; simp at hg'))) | (refine OutOK.gate (fun hg => ?_) (fun hg => ?_) <;> (try (have hg' := hg; simp at hg'))) | (refine OutOK.callF [] (by simp [*]; rfl) (by simp [*]; rfl) (by simp [*]; rfl) hb40 (by apply c1 <;> first | assumption | exact Hd.out (by assumption) | ((try (clear e0)); (try (clear e1)); (try (clear e2)); (try (clear e3)); (try (clear e4)); (try (clear e5)); (try (clear e6)); (try (clear e7)); (try (clear e8)); (try (clear e9)); (try (clear e10)); (try (clear e11)); omega)) ⟨by simp [*], by simp [*], by simp [*], by simp [*], by simp [*]⟩ (by simp [*]) (by simp [*]; rfl) ?_) | (refine OutOK.callF [] (by simp [*]; rfl) (by simp [*]; rfl) (by simp [*]; rfl) hb40 (by apply c2 <;> first | assumption | exact Hd.out (by assumption) | ((try (clear e0)); (try (clear e1)); (try (clear e2)); (try (clear e3)); (try (clear e4)); (try (clear e5)); (try (clear e6)); (try (clear e7)); (try (clear e8)); (try (clear e9)); (try (clear e10)); (try (clear e11)); omega)) ⟨by simp [*], by simp [*], by simp [*], by simp [*], by simp [*]⟩ (by simp [*]) (by simp [*]; rfl) ?_) | (refine OutOK.callF [] (by simp [*]; rfl) (by simp [*]; rfl) (by simp [*]; rfl) hb79 (by apply c3 <;> first | assumption | exact Hd.out (by assumption) | ((try (clear e0)); (try (clear e1)); (try (clear e2)); (try (clear e3)); (try (clear e4)); (try (clear e5)); (try (clear e6)); (try (clear e7)); (try (clear e8)); (try (clear e9)); (try (clear e10)); (try (clear e11)); omega)) ⟨by simp [*], by simp [*], by simp [*], by simp [*], by simp [*]⟩ (by simp [*]) (by simp [*]; rfl) ?_) | refine OutOK.run (by simp [*]; rfl) ?_ | refine AW.ret ?_ | refine AW.skip ?_ | refine AW.exit ?_ | refine fin_r ?_ | refine fin_n ?_ | refine AW.block ?_ | refine blockQ_n ?_ | refine blockQ_r ?_ | refine blockQ_e ?_ | refine blockQ_o rfl ?_)
  exact .inl ⟨rfl, hb.out, by simp [Try.f26]⟩
theorem w_ih3d (l : List Edt) (n : Int) (i k : Nat) (h : i < l.length) (hk : k < l.length) (hl : l.length ≤ 24) (hli : l[i].ck.length ≤ 3) (hlk : l[k].ck.length = l[i].ck.length) (p1 : precE l[k] l[i] = true) (p2 : precE l[i] l[k] = false) (p3 : noGr l[k].ck l[i].ck = true) : AW Try.prog 152 (cAt Try.f26 [2, 2, 2, 2, 2, 1, 2, 5, 7, 2, 2, 1, 5, 2, 2, 5, 7]) (mk [(0, .c (.sl true 5 (edts true l))), (1, .c (.sc (.int .i64 n))), (13, .pt 13000 []  0), (123, .c (.sl true 5 (edts true l))), (124, .c (.sc (.int .i64 (l.length : Int)))), (125, .c (.sc (.int .i64 (i : Int)))), (129, .c (.sl true 5 (edts true l))), (130, .c (.sc (.int .i64 (l.length : Int)))), (131, .c (.sc (.int .i64 (k : Int))))] [(13000, .bx (edtC true l[i]))]) (Ih3Q l n i k h hk) := by
  have e1 : wrap64 ((k : Int) + 1) = ((k + 1 : Nat) : Int) := by rw [w64 (by omega) (by omega)]; omega
  have c1 := c_impl_Precedes l[k] l[i] (by omega)
  rw [p1] at c1
  have c2 := c_impl_Precedes l[i] l[k] (by omega)
  rw [p2] at c2
  have c3 := c_impl_noGreater l[k].ck l[i].ck (by omega) (by omega)
  rw [p3] at c3
  have hb : Hd ((precE l[k] l[i] = true → precE l[i] l[k] = false ∧ noGr l[k].ck l[i].ck = true)) := fun _ => ⟨p2, p3⟩
  clear p1 p2 p3 hlk hli
  repeat' (first | with_reducible refine OutOK.done ?_ | refine thenQ_n ?_ | refine thenQ_r ?_ | refine thenQ_e ?_ | refine AW.seq ?_ | refine AW.dreg tok mixed [15, 25, 26, 27, 28]  [(0, false), (2, false), (3, false), (1, false), (4, false), (5, false), (6, false), (7, false), (8, false), (9, false), (10, false), (11, false), (12, false), (13, false), (14, false), (15, true), (16, false), (17, false), (18, false), (19, false), (20, false), (21, false), (23, false), (24, false), (22, false), (25, true), (26, true), (27, true), (28, true), (29, false), (30, false)] (by decide +kernel) rfl (by simp [*]; rfl) ?_ | refine AW.dreg tok mixed [9, 13]  [(0, false), (3, false), (1, false), (2, false), (4, false), (5, false), (6, false), (8, false), (12, false), (7, false), (9, true), (10, false), (11, false), (13, true), (14, false), (15, false), (16, false), (17, false), (18, false), (19, false), (20, false), (21, false), (22, false), (23, false), (24, false), (25, false), (26, false), (27, false)] (by decide +kernel) rfl (by simp [*]; rfl) ?_ | refine AW.reg tok (by simp [*]; rfl) ?_ | refine AW.ifB (by simp [*]; rfl) ?_ | refine IfG.t ?_ | refine IfG.f ?_ | (refine IfG.p (fun hg => ?_) (fun hg => ?_) <;> (try (have hg' := hg; simp at hg'))) | (refine IfG.n (fun hg => ?_) (fun hg => ?_) <;> (try (have hg' := hg; simp at hg'))) | (refine OutOK.gateP (fun hg => ?_) (fun hg => ?_) <;> (try (have hg' := hg; simp at hg'))) | (refine OutOK.gateN (fun hg => ?_) (fun hg => ?_) <;> (try (have hg' := hg; simp at hg'))) | (refine IfG.g (fun hg => ?_) (fun hg => ?_) <;> (try (have hg' := hg; simp at hg'))) | (refine OutOK.gate (fun hg => ?_) (fun hg => ?_) <;> (try (have hg' := hg; simp at hg'))) | (refine OutOK.callF [] (by simp [*]; rfl) (by simp [*]; rfl) (by simp [*]; rfl) hb40 (by apply c1 <;> first | assumption | exact Hd.out (by assumption) | ((try (clear e0)); (try (clear e1)); (try (clear e2)); (try (clear e3)); (try (clear e4)); (try (clear e5)); (try (clear e6)); (try (clear e7)); (try (clear e8)); (try (clear e9)); (try (clear e10)); (try (clear e11)); omega)) ⟨by simp [*], by simp [*], by simp [*], by simp [*], by simp [*]⟩ (by simp [*]) (by simp [*]; rfl) ?_) | (refine OutOK.callF [] (by simp [*]; rfl) (by simp [*]; rfl) (by simp [*]; rfl) hb40 (by apply c2 <;> first | assumption | exact Hd.out (by assumption) | ((try (clear e0)); (try (clear e1)); (try (clear e2)); (try (clear e3)); (try (clear e4)); (try (clear e5)); (try (clear e6)); (try (clear e7)); (try (clear e8)); (try (clear e9)); (try (clear e10)); (try (clear e11)); omega)) ⟨by simp [*], by simp [*], by simp [*], by simp [*], by simp [*]⟩ (by simp [*]) (by simp [*]; rfl) ?_) | (refine OutOK.callF [] (by simp [*]; rfl) (by simp [*]; rfl) (by simp [*]; rfl) hb79 (by apply c3 <;> first | assumption | exact Hd.out (by assumption) | ((try (clear e0)); (try (clear e1)); (try (clear e2)); (try (clear e3)); (try (clear e4)); (try (clear e5)); (try (clear e6)); (try (clear e7)); (try (clear e8)); (try (clear e9)); (try (clear e10)); (try (clear e11)); omega)) ⟨by simp [*], by simp [*], by simp [*], by simp [*], by simp [*]⟩ (by simp [*]) (by simp [*]; rfl) ?_) | refine OutOK.run (by simp [*]; rfl) ?_ | refine AW.ret ?_ | refine AW.skip ?_ | refine AW.exit ?_ | refine fin_r ?_ | refine fin_n ?_ | refine AW.block ?_ | refine blockQ_n ?_ | refine blockQ_r ?_ | refine blockQ_e ?_ | refine blockQ_o rfl ?_)
  exact .inr ⟨rfl, hb.out, by simp, by simp, by simp⟩
theorem w_ih3 (l : List Edt) (n : Int) (i k : Nat) (h : i < l.length) (hk : k < l.length) (hl : l.length ≤ 24) (hli : l[i].ck.length ≤ 3) (hlk : l[k].ck.length = l[i].ck.length) : AW Try.prog 152 (cAt Try.f26 [2, 2, 2, 2, 2, 1, 2, 5, 7, 2, 2, 1, 5, 2, 2, 5, 7]) (mk [(0, .c (.sl true 5 (edts true l))), (1, .c (.sc (.int .i64 n))), (13, .pt 13000 []  0), (123, .c (.sl true 5 (edts true l))), (124, .c (.sc (.int .i64 (l.length : Int)))), (125, .c (.sc (.int .i64 (i : Int)))), (129, .c (.sl true 5 (edts true l))), (130, .c (.sc (.int .i64 (l.length : Int)))), (131, .c (.sc (.int .i64 (k : Int))))] [(13000, .bx (edtC true l[i]))]) (Ih3Q l n i k h hk) := by
  cases p1 : precE l[k] l[i] with
  | false => exact w_ih3a l n i k h hk hl hli hlk p1
  | true =>
    cases p2 : precE l[i] l[k] with
    | true => exact w_ih3b l n i k h hk hl hli hlk p1 p2
    | false =>
      cases p3 : noGr l[k].ck l[i].ck with
      | false => exact w_ih3c l n i k h hk hl hli hlk p1 p2 p3
      | true => exact w_ih3d l n i k h hk hl hli hlk p1 p2 p3
theorem c_impl_IsValidHistory (l : List Edt) (n : Int) (h : l.length ≤ 4611686018427387904) (hW : ∀ e ∈ l, EdtW e) : ACall Try.prog 26 [.v (.sl true 5 (edts true l)), int n] [.x, .x] [boo (hist l n)] := by
  have hW' : Hd _ := hW
  clear hW
  cases hR : inR 1 3 n with
  | false =>
    have hb : hist l n = false := hist_no (fun hh => by have := hh.nn; rw [hR] at this; cases this)
    rw [hb]
    clear hb
    refine ACall.of (N := 152) tok Try.func26 rfl rfl rfl (by simp) ?_
    repeat' (first | with_reducible refine OutOK.done ?_ | refine thenQ_n ?_ | refine thenQ_r ?_ | refine thenQ_e ?_ | refine AW.seq ?_ | refine AW.dreg tok mixed [15, 25, 26, 27, 28]  [(0, false), (2, false), (3, false), (1, false), (4, false), (5, false), (6, false), (7, false), (8, false), (9, false), (10, false), (11, false), (12, false), (13, false), (14, false), (15, true), (16, false), (17, false), (18, false), (19, false), (20, false), (21, false), (23, false), (24, false), (22, false), (25, true), (26, true), (27, true), (28, true), (29, false), (30, false)] (by decide +kernel) rfl (by simp [*]; rfl) ?_ | refine AW.dreg tok mixed [9, 13]  [(0, false), (3, false), (1, false), (2, false), (4, false), (5, false), (6, false), (8, false), (12, false), (7, false), (9, true), (10, false), (11, false), (13, true), (14, false), (15, false), (16, false), (17, false), (18, false), (19, false), (20, false), (21, false), (22, false), (23, false), (24, false), (25, false), (26, false), (27, false)] (by decide +kernel) rfl (by simp [*]; rfl) ?_ | refine AW.reg tok (by simp [*]; rfl) ?_ | refine AW.ifB (by simp [*]; rfl) ?_ | refine IfG.t ?_ | refine IfG.f ?_ | (refine IfG.p (fun hg => ?_) (fun hg => ?_) <;> (try (have hg' := hg; simp at hg'))) | (refine IfG.n (fun hg => ?_) (fun hg => ?_) <;> (try (have hg' := hg; simp at hg'))) | (refine OutOK.gateP (fun hg => ?_) (fun hg => ?_) <;> (try (have hg' := hg; simp at hg'))) | (refine OutOK.gateN (fun hg => ?_) (fun hg => ?_) <;> (try (have hg' := hg; simp at hg'))) | (refine IfG.g (fun hg => ?_) (fun hg => ?_) <;> (try (have hg' := hg; simp at hg'))) | (refine OutOK.gate (fun hg => ?_) (fun hg => ?_) <;> (try (have hg' := hg; simp at hg'))) | (refine OutOK.callF [] (by simp [*]; rfl) (by simp [*]; rfl) (by simp [*]; rfl) hb59 (by apply c_impl_within <;> first | assumption | exact Hd.out (by assumption) | ((try (clear e0)); (try (clear e1)); (try (clear e2)); (try (clear e3)); (try (clear e4)); (try (clear e5)); (try (clear e6)); (try (clear e7)); (try (clear e8)); (try (clear e9)); (try (clear e10)); (try (clear e11)); omega)) ⟨by simp [*], by simp [*], by simp [*], by simp [*], by simp [*]⟩ (by simp [*]) (by simp [*]; rfl) ?_) | refine OutOK.run (by simp [*]; rfl) ?_ | refine AW.ret ?_ | refine AW.skip ?_ | refine AW.exit ?_ | refine fin_r ?_ | refine fin_n ?_ | refine AW.block ?_ | refine blockQ_n ?_ | refine blockQ_r ?_ | refine blockQ_e ?_ | refine blockQ_o rfl ?_)
    simp [Try.f26]
  | true =>
  rcases Nat.lt_or_ge 24 l.length with h24 | h24
  · have hb : hist l n = false := hist_no (fun hh => by have := hh.len; omega)
    rw [hb]
    have h24' : (24 : Int) < l.length := by omega
    clear hb
    refine ACall.of (N := 152) tok Try.func26 rfl rfl rfl (by simp) ?_
    repeat' (first | with_reducible refine OutOK.done ?_ | refine thenQ_n ?_ | refine thenQ_r ?_ | refine thenQ_e ?_ | refine AW.seq ?_ | refine AW.dreg tok mixed [15, 25, 26, 27, 28]  [(0, false), (2, false), (3, false), (1, false), (4, false), (5, false), (6, false), (7, false), (8, false), (9, false), (10, false), (11, false), (12, false), (13, false), (14, false), (15, true), (16, false), (17, false), (18, false), (19, false), (20, false), (21, false), (23, false), (24, false), (22, false), (25, true), (26, true), (27, true), (28, true), (29, false), (30, false)] (by decide +kernel) rfl (by simp [*]; rfl) ?_ | refine AW.dreg tok mixed [9, 13]  [(0, false), (3, false), (1, false), (2, false), (4, false), (5, false), (6, false), (8, false), (12, false), (7, false), (9, true), (10, false), (11, false), (13, true), (14, false), (15, false), (16, false), (17, false), (18, false), (19, false), (20, false), (21, false), (22, false), (23, false), (24, false), (25, false), (26, false), (27, false)] (by decide +kernel) rfl (by simp [*]; rfl) ?_ | refine AW.reg tok (by simp [*]; rfl) ?_ | refine AW.ifB (by simp [*]; rfl) ?_ | refine IfG.t ?_ | refine IfG.f ?_ | (refine IfG.p (fun hg => ?_) (fun hg => ?_) <;> (try (have hg' := hg; simp at hg'))) | (refine IfG.n (fun hg => ?_) (fun hg => ?_) <;> (try (have hg' := hg; simp at hg'))) | (refine OutOK.gateP (fun hg => ?_) (fun hg => ?_) <;> (try (have hg' := hg; simp at hg'))) | (refine OutOK.gateN (fun hg => ?_) (fun hg => ?_) <;> (try (have hg' := hg; simp at hg'))) | (refine IfG.g (fun hg => ?_) (fun hg => ?_) <;> (try (have hg' := hg; simp at hg'))) | (refine OutOK.gate (fun hg => ?_) (fun hg => ?_) <;> (try (have hg' := hg; simp at hg'))) | (refine OutOK.callF [] (by simp [*]; rfl) (by simp [*]; rfl) (by simp [*]; rfl) hb59 (by apply c_impl_within <;> first | assumption | exact Hd.out (by assumption) | ((try (clear e0)); (try (clear e1)); (try (clear e2)); (try (clear e3)); (try (clear e4)); (try (clear e5)); (try (clear e6)); (try (clear e7)); (try (clear e8)); (try (clear e9)); (try (clear e10)); (try (clear e11)); omega)) ⟨by simp [*], by simp [*], by simp [*], by simp [*], by simp [*]⟩ (by simp [*]) (by simp [*]; rfl) ?_) | refine OutOK.run (by simp [*]; rfl) ?_ | refine AW.ret ?_ | refine AW.skip ?_ | refine AW.exit ?_ | refine fin_r ?_ | refine fin_n ?_ | refine AW.block ?_ | refine blockQ_n ?_ | refine blockQ_r ?_ | refine blockQ_e ?_ | refine blockQ_o rfl ?_)
    simp [Try.f26]
  have h24' : ¬ (24 : Int) < l.length := by omega
  obtain ⟨n1, n3⟩ := inR_iff.1 hR
  have no : Hd (¬ Hist l n → hist l n = false) := fun hh => hist_no hh
  have yes : Hd (Hist l n → hist l n = true) := fun hh => hist_iff'.2 hh
  generalize hist l n = B at *
  have b1 : n * 8 ≤ 140737488355328 := by omega
  have b2 : n ≤ 4611686018427387904 := by omega
  have hn0 : 0 ≤ n := by omega
  have hz : Hd (cts l n 0 = List.replicate n.toNat 0) := cts_zero l n
  refine ACall.of (N := 152) tok Try.func26 rfl rfl rfl (by simp) ?_
  repeat' (first | with_reducible refine OutOK.done ?_ | refine thenQ_n ?_ | refine thenQ_r ?_ | refine thenQ_e ?_ | refine AW.seq ?_ | refine AW.dreg tok mixed [15, 25, 26, 27, 28]  [(0, false), (2, false), (3, false), (1, false), (4, false), (5, false), (6, false), (7, false), (8, false), (9, false), (10, false), (11, false), (12, false), (13, false), (14, false), (15, true), (16, false), (17, false), (18, false), (19, false), (20, false), (21, false), (23, false), (24, false), (22, false), (25, true), (26, true), (27, true), (28, true), (29, false), (30, false)] (by decide +kernel) rfl (by simp [*]; rfl) ?_ | refine AW.dreg tok mixed [9, 13]  [(0, false), (3, false), (1, false), (2, false), (4, false), (5, false), (6, false), (8, false), (12, false), (7, false), (9, true), (10, false), (11, false), (13, true), (14, false), (15, false), (16, false), (17, false), (18, false), (19, false), (20, false), (21, false), (22, false), (23, false), (24, false), (25, false), (26, false), (27, false)] (by decide +kernel) rfl (by simp [*]; rfl) ?_ | refine AW.reg tok (by simp [*]; rfl) ?_ | refine AW.ifB (by simp [*]; rfl) ?_ | refine IfG.t ?_ | refine IfG.f ?_ | (refine IfG.p (fun hg => ?_) (fun hg => ?_) <;> (try (have hg' := hg; simp at hg'))) | (refine IfG.n (fun hg => ?_) (fun hg => ?_) <;> (try (have hg' := hg; simp at hg'))) | (refine OutOK.gateP (fun hg => ?_) (fun hg => ?_) <;> (try (have hg' := hg; simp at hg'))) | (refine OutOK.gateN (fun hg => ?_) (fun hg => ?_) <;> (try (have hg' := hg; simp at hg'))) | (refine IfG.g (fun hg => ?_) (fun hg => ?_) <;> (try (have hg' := hg; simp at hg'))) | (refine OutOK.gate (fun hg => ?_) (fun hg => ?_) <;> (try (have hg' := hg; simp at hg'))) | (refine OutOK.callF [] (by simp [*]; rfl) (by simp [*]; rfl) (by simp [*]; rfl) hb59 (by apply c_impl_within <;> first | assumption | exact Hd.out (by assumption) | ((try (clear e0)); (try (clear e1)); (try (clear e2)); (try (clear e3)); (try (clear e4)); (try (clear e5)); (try (clear e6)); (try (clear e7)); (try (clear e8)); (try (clear e9)); (try (clear e10)); (try (clear e11)); omega)) ⟨by simp [*], by simp [*], by simp [*], by simp [*], by simp [*]⟩ (by simp [*]) (by simp [*]; rfl) ?_) | refine OutOK.run (by simp [*]; rfl) ?_ | refine AW.ret ?_ | refine AW.skip ?_ | refine AW.exit ?_ | refine fin_r ?_ | refine fin_n ?_ | refine AW.block ?_ | refine blockQ_n ?_ | refine blockQ_r ?_ | refine blockQ_e ?_ | refine blockQ_o rfl ?_)
  refine AW.loopL (α := Nat) (fun i => i ≤ l.length ∧ Hd (∀ j (hj : j < l.length), j < i → St1 l n j hj ∧ Fl l[j] n)) (fun i => [(0, .c (.sl true 5 (edts true l))), (1, .c (.sc (.int .i64 n))), (5, .rf 25000 []), (26, .c (.sl true 5 (edts true l))), (27, .c (.sc (.int .i64 (l.length : Int)))), (28, .c (.sc (.int .i64 (i : Int))))]) (fun i => [(25000, .sv (.sl false 1 (ints (cts l n i))))]) (fun i => l.length - i) 0 ⟨Nat.zero_le _, fun j _ hj => by omega⟩ ⟨by simp, by simp [hz.out], by simp⟩ ?_
  rintro i ⟨hi, hs⟩
  rcases Nat.lt_or_ge i l.length with hil | hil
  · refine (w_ih1 l n i hil h24 n1 n3 (hW'.out _ (List.getElem_mem hil))).mono fun e st hq => ?_
    rcases hq with ⟨rfl, hk, hq⟩ | ⟨rfl, hk, hq⟩
    · have hb := no.out (fun hh => hk ⟨hh.st i hil, hh.fl i hil⟩)
      subst hb
      exact ⟨.inr rfl, hq⟩
    · refine ⟨i + 1, ⟨hil, fun j hj hji => ?_⟩, hq, by omega⟩
      rcases Nat.lt_succ_iff_lt_or_eq.1 hji with h2 | rfl
      · exact hs.out j hj h2
      · exact hk
  have hii : i = l.length := by omega
  subst hii
  clear hz
  repeat' (first | with_reducible refine AW.stopB 2 ?_ | with_reducible refine OutOK.done ?_ | refine thenQ_n ?_ | refine thenQ_r ?_ | refine thenQ_e ?_ | refine AW.seq ?_ | refine AW.dreg tok mixed [15, 25, 26, 27, 28]  [(0, false), (2, false), (3, false), (1, false), (4, false), (5, false), (6, false), (7, false), (8, false), (9, false), (10, false), (11, false), (12, false), (13, false), (14, false), (15, true), (16, false), (17, false), (18, false), (19, false), (20, false), (21, false), (23, false), (24, false), (22, false), (25, true), (26, true), (27, true), (28, true), (29, false), (30, false)] (by decide +kernel) rfl (by simp [*]; rfl) ?_ | refine AW.dreg tok mixed [9, 13]  [(0, false), (3, false), (1, false), (2, false), (4, false), (5, false), (6, false), (8, false), (12, false), (7, false), (9, true), (10, false), (11, false), (13, true), (14, false), (15, false), (16, false), (17, false), (18, false), (19, false), (20, false), (21, false), (22, false), (23, false), (24, false), (25, false), (26, false), (27, false)] (by decide +kernel) rfl (by simp [*]; rfl) ?_ | refine AW.reg tok (by simp [*]; rfl) ?_ | refine AW.ifB (by simp [*]; rfl) ?_ | refine IfG.t ?_ | refine IfG.f ?_ | (refine IfG.p (fun hg => ?_) (fun hg => ?_) <;> (try (have hg' := hg; simp at hg'))) | (refine IfG.n (fun hg => ?_) (fun hg => ?_) <;> (try (have hg' := hg; simp at hg'))) | (refine OutOK.gateP (fun hg => ?_) (fun hg => ?_) <;> (try (have hg' := hg; simp at hg'))) | (refine OutOK.gateN (fun hg => ?_) (fun hg => ?_) <;> (try (have hg' := hg; simp at hg'))) | (refine IfG.g (fun hg => ?_) (fun hg => ?_) <;> (try (have hg' := hg; simp at hg'))) | (refine OutOK.gate (fun hg => ?_) (fun hg => ?_) <;> (try (have hg' := hg; simp at hg'))) | refine OutOK.run (by simp [*]; rfl) ?_ | refine AW.ret ?_ | refine AW.skip ?_ | refine AW.exit ?_ | refine fin_r ?_ | refine fin_n ?_ | refine AW.block ?_ | refine blockQ_n ?_ | refine blockQ_r ?_ | refine blockQ_e ?_ | refine blockQ_o rfl ?_)
  refine ⟨AW.forget [(0, .c (.sl true 5 (edts true l))), (1, .c (.sc (.int .i64 n))), (5, .rf 25000 []), (100, .c (.sl true 5 (edts true l))), (101, .c (.sc (.int .i64 (l.length : Int)))), (102, .c (.sc (.int .i64 0)))] [(25000, .sv (.sl false 1 (ints (cts l n l.length))))] ⟨by simp, by simp, by simp⟩ ?_⟩
  have hlen : ∀ a (ha : a < l.length), (l[a].ck.length : Int) = n := fun a ha => (hs.out a ha ha).2.1
  repeat' (first | with_reducible refine OutOK.done ?_ | refine thenQ_n ?_ | refine thenQ_r ?_ | refine thenQ_e ?_ | refine AW.seq ?_ | refine AW.dreg tok mixed [15, 25, 26, 27, 28]  [(0, false), (2, false), (3, false), (1, false), (4, false), (5, false), (6, false), (7, false), (8, false), (9, false), (10, false), (11, false), (12, false), (13, false), (14, false), (15, true), (16, false), (17, false), (18, false), (19, false), (20, false), (21, false), (23, false), (24, false), (22, false), (25, true), (26, true), (27, true), (28, true), (29, false), (30, false)] (by decide +kernel) rfl (by simp [*]; rfl) ?_ | refine AW.dreg tok mixed [9, 13]  [(0, false), (3, false), (1, false), (2, false), (4, false), (5, false), (6, false), (8, false), (12, false), (7, false), (9, true), (10, false), (11, false), (13, true), (14, false), (15, false), (16, false), (17, false), (18, false), (19, false), (20, false), (21, false), (22, false), (23, false), (24, false), (25, false), (26, false), (27, false)] (by decide +kernel) rfl (by simp [*]; rfl) ?_ | refine AW.reg tok (by simp [*]; rfl) ?_ | refine AW.ifB (by simp [*]; rfl) ?_ | refine IfG.t ?_ | refine IfG.f ?_ | (refine IfG.p (fun hg => ?_) (fun hg => ?_) <;> (try (have hg' := hg; simp at hg'))) | (refine IfG.n (fun hg => ?_) (fun hg => ?_) <;> (try (have hg' := hg; simp at hg'))) | (refine OutOK.gateP (fun hg => ?_) (fun hg => ?_) <;> (try (have hg' := hg; simp at hg'))) | (refine OutOK.gateN (fun hg => ?_) (fun hg => ?_) <;> (try (have hg' := hg; simp at hg'))) | (refine IfG.g (fun hg => ?_) (fun hg => ?_) <;> (try (have hg' := hg; simp at hg'))) | (refine OutOK.gate (fun hg => ?_) (fun hg => ?_) <;> (try (have hg' := hg; simp at hg'))) | refine OutOK.run (by simp [*]; rfl) ?_ | refine AW.ret ?_ | refine AW.skip ?_ | refine AW.exit ?_ | refine fin_r ?_ | refine fin_n ?_ | refine AW.block ?_ | refine blockQ_n ?_ | refine blockQ_r ?_ | refine blockQ_e ?_ | refine blockQ_o rfl ?_)
  refine AW.loopL (α := Nat) (fun i => i ≤ l.length ∧ Hd (∀ j (hj : j < l.length), j < i → ∀ t < l[j].ck.length, inR 0 (cntE l (t : Int)) (ckAt l[j].ck (t : Int)) = true)) (fun i => [(0, .c (.sl true 5 (edts true l))), (1, .c (.sc (.int .i64 n))), (5, .rf 25000 []), (100, .c (.sl true 5 (edts true l))), (101, .c (.sc (.int .i64 (l.length : Int)))), (102, .c (.sc (.int .i64 (i : Int))))]) (fun i => [(25000, .sv (.sl false 1 (ints (cts l n l.length))))]) (fun i => l.length - i) 0 ⟨Nat.zero_le _, fun j _ hj => by omega⟩ ⟨by simp, by simp, by simp⟩ ?_
  rintro i ⟨hi, hs2⟩
  rcases Nat.lt_or_ge i l.length with hil | hil
  · refine (w_ih2 l n i hil h24 n1 n3 (hlen i hil)).mono fun e st hq => ?_
    rcases hq with ⟨rfl, hk, hq⟩ | ⟨rfl, hk, hq⟩
    · have hb := no.out (fun hh => hk (hh.ck i hil))
      subst hb
      exact ⟨.inr rfl, hq⟩
    · refine ⟨i + 1, ⟨hil, fun j hj hji => ?_⟩, hq, by omega⟩
      rcases Nat.lt_succ_iff_lt_or_eq.1 hji with h2 | rfl
      · exact hs2.out j hj h2
      · exact hk
  have hii : i = l.length := by omega
  subst hii
  have hlen' : Hd _ := hlen
  clear hlen
  repeat' (first | with_reducible refine OutOK.done ?_ | refine thenQ_n ?_ | refine thenQ_r ?_ | refine thenQ_e ?_ | refine AW.seq ?_ | refine AW.dreg tok mixed [15, 25, 26, 27, 28]  [(0, false), (2, false), (3, false), (1, false), (4, false), (5, false), (6, false), (7, false), (8, false), (9, false), (10, false), (11, false), (12, false), (13, false), (14, false), (15, true), (16, false), (17, false), (18, false), (19, false), (20, false), (21, false), (23, false), (24, false), (22, false), (25, true), (26, true), (27, true), (28, true), (29, false), (30, false)] (by decide +kernel) rfl (by simp [*]; rfl) ?_ | refine AW.dreg tok mixed [9, 13]  [(0, false), (3, false), (1, false), (2, false), (4, false), (5, false), (6, false), (8, false), (12, false), (7, false), (9, true), (10, false), (11, false), (13, true), (14, false), (15, false), (16, false), (17, false), (18, false), (19, false), (20, false), (21, false), (22, false), (23, false), (24, false), (25, false), (26, false), (27, false)] (by decide +kernel) rfl (by simp [*]; rfl) ?_ | refine AW.reg tok (by simp [*]; rfl) ?_ | refine AW.ifB (by simp [*]; rfl) ?_ | refine IfG.t ?_ | refine IfG.f ?_ | (refine IfG.p (fun hg => ?_) (fun hg => ?_) <;> (try (have hg' := hg; simp at hg'))) | (refine IfG.n (fun hg => ?_) (fun hg => ?_) <;> (try (have hg' := hg; simp at hg'))) | (refine OutOK.gateP (fun hg => ?_) (fun hg => ?_) <;> (try (have hg' := hg; simp at hg'))) | (refine OutOK.gateN (fun hg => ?_) (fun hg => ?_) <;> (try (have hg' := hg; simp at hg'))) | (refine IfG.g (fun hg => ?_) (fun hg => ?_) <;> (try (have hg' := hg; simp at hg'))) | (refine OutOK.gate (fun hg => ?_) (fun hg => ?_) <;> (try (have hg' := hg; simp at hg'))) | refine OutOK.run (by simp [*]; rfl) ?_ | refine AW.ret ?_ | refine AW.skip ?_ | refine AW.exit ?_ | refine fin_r ?_ | refine fin_n ?_ | refine AW.block ?_ | refine blockQ_n ?_ | refine blockQ_r ?_ | refine blockQ_e ?_ | refine blockQ_o rfl ?_)
  refine AW.loopL (α := Nat) (fun i => i ≤ l.length ∧ Hd (∀ j (hj : j < l.length), j < i → ∀ k (hk : k < l.length), precE l[k] l[j] = true → precE l[j] l[k] = false ∧ noGr l[k].ck l[j].ck = true)) (fun i => [(0, .c (.sl true 5 (edts true l))), (1, .c (.sc (.int .i64 n))), (123, .c (.sl true 5 (edts true l))), (124, .c (.sc (.int .i64 (l.length : Int)))), (125, .c (.sc (.int .i64 (i : Int))))]) (fun i => []) (fun i => l.length - i) 0 ⟨Nat.zero_le _, fun j _ hj => by omega⟩ ⟨by simp, by simp, by simp⟩ ?_
  rintro i ⟨hi, hs3⟩
  rcases Nat.lt_or_ge i l.length with hil | hil
  · have e1 : wrap64 ((i : Int) + 1) = ((i + 1 : Nat) : Int) := by rw [w64 (by omega) (by omega)]; omega
    have hli : l[i].ck.length ≤ 3 := by have := hlen'.out i hil; omega
    repeat' (first | with_reducible refine OutOK.done ?_ | refine thenQ_n ?_ | refine thenQ_r ?_ | refine thenQ_e ?_ | refine AW.seq ?_ | refine AW.dreg tok mixed [15, 25, 26, 27, 28]  [(0, false), (2, false), (3, false), (1, false), (4, false), (5, false), (6, false), (7, false), (8, false), (9, false), (10, false), (11, false), (12, false), (13, false), (14, false), (15, true), (16, false), (17, false), (18, false), (19, false), (20, false), (21, false), (23, false), (24, false), (22, false), (25, true), (26, true), (27, true), (28, true), (29, false), (30, false)] (by decide +kernel) rfl (by simp [*]; rfl) ?_ | refine AW.dreg tok mixed [9, 13]  [(0, false), (3, false), (1, false), (2, false), (4, false), (5, false), (6, false), (8, false), (12, false), (7, false), (9, true), (10, false), (11, false), (13, true), (14, false), (15, false), (16, false), (17, false), (18, false), (19, false), (20, false), (21, false), (22, false), (23, false), (24, false), (25, false), (26, false), (27, false)] (by decide +kernel) rfl (by simp [*]; rfl) ?_ | refine AW.reg tok (by simp [*]; rfl) ?_ | refine AW.ifB (by simp [*]; rfl) ?_ | refine IfG.t ?_ | refine IfG.f ?_ | (refine IfG.p (fun hg => ?_) (fun hg => ?_) <;> (try (have hg' := hg; simp at hg'))) | (refine IfG.n (fun hg => ?_) (fun hg => ?_) <;> (try (have hg' := hg; simp at hg'))) | (refine OutOK.gateP (fun hg => ?_) (fun hg => ?_) <;> (try (have hg' := hg; simp at hg'))) | (refine OutOK.gateN (fun hg => ?_) (fun hg => ?_) <;> (try (have hg' := hg; simp at hg'))) | (refine IfG.g (fun hg => ?_) (fun hg => ?_) <;> (try (have hg' := hg; simp at hg'))) | (refine OutOK.gate (fun hg => ?_) (fun hg => ?_) <;> (try (have hg' := hg; simp at hg'))) | refine OutOK.run (by simp [*]; rfl) ?_ | refine AW.ret ?_ | refine AW.skip ?_ | refine AW.exit ?_ | refine fin_r ?_ | refine fin_n ?_ | refine AW.block ?_ | refine blockQ_n ?_ | refine blockQ_r ?_ | refine blockQ_e ?_ | refine blockQ_o rfl ?_)
    refine AW.loopL (α := Nat) (fun k => k ≤ l.length ∧ Hd (∀ j (hj : j < l.length), j < k → precE l[j] l[i] = true → precE l[i] l[j] = false ∧ noGr l[j].ck l[i].ck = true)) (fun k => [(0, .c (.sl true 5 (edts true l))), (1, .c (.sc (.int .i64 n))), (13, .pt 13000 []  0), (123, .c (.sl true 5 (edts true l))), (124, .c (.sc (.int .i64 (l.length : Int)))), (125, .c (.sc (.int .i64 (i : Int)))), (129, .c (.sl true 5 (edts true l))), (130, .c (.sc (.int .i64 (l.length : Int)))), (131, .c (.sc (.int .i64 (k : Int))))]) (fun _ => [(13000, .bx (edtC true l[i]))]) (fun k => l.length - k) 0 ⟨Nat.zero_le _, fun j _ hj => by omega⟩ ⟨by simp, by simp, by simp⟩ ?_
    rintro k ⟨hk, hsk⟩
    rcases Nat.lt_or_ge k l.length with hkl | hkl
    · refine (w_ih3 l n i k hil hkl h24 hli (by have := hlen'.out i hil; have := hlen'.out k hkl; omega)).mono fun e st hq => ?_
      rcases hq with ⟨rfl, hk2, hq⟩ | ⟨rfl, hk2, hq⟩
      · have hb := no.out (fun hh => hk2 (hh.pr i hil k hkl))
        subst hb
        exact ⟨.inr rfl, hq⟩
      · refine ⟨k + 1, ⟨hkl, fun j hj hji => ?_⟩, hq, by omega⟩
        rcases Nat.lt_succ_iff_lt_or_eq.1 hji with h2 | rfl
        · exact hsk.out j hj h2
        · exact hk2
    · have hkn : ¬ k < l.length := by omega
      have hs4 : Hd (∀ j (hj : j < l.length), j < i + 1 → ∀ k (hk : k < l.length), precE l[k] l[j] = true → precE l[j] l[k] = false ∧ noGr l[k].ck l[j].ck = true) := by
        intro j hj hji
        rcases Nat.lt_succ_iff_lt_or_eq.1 hji with h2 | rfl
        · exact hs3.out j hj h2
        · exact fun q hq => hsk.out q hq (by omega)
      clear no yes
      repeat' (first | with_reducible refine OutOK.done ?_ | refine thenQ_n ?_ | refine thenQ_r ?_ | refine thenQ_e ?_ | refine AW.seq ?_ | refine AW.dreg tok mixed [15, 25, 26, 27, 28]  [(0, false), (2, false), (3, false), (1, false), (4, false), (5, false), (6, false), (7, false), (8, false), (9, false), (10, false), (11, false), (12, false), (13, false), (14, false), (15, true), (16, false), (17, false), (18, false), (19, false), (20, false), (21, false), (23, false), (24, false), (22, false), (25, true), (26, true), (27, true), (28, true), (29, false), (30, false)] (by decide +kernel) rfl (by simp [*]; rfl) ?_ | refine AW.dreg tok mixed [9, 13]  [(0, false), (3, false), (1, false), (2, false), (4, false), (5, false), (6, false), (8, false), (12, false), (7, false), (9, true), (10, false), (11, false), (13, true), (14, false), (15, false), (16, false), (17, false), (18, false), (19, false), (20, false), (21, false), (22, false), (23, false), (24, false), (25, false), (26, false), (27, false)] (by decide +kernel) rfl (by simp [*]; rfl) ?_ | refine AW.reg tok (by simp [*]; rfl) ?_ | refine AW.ifB (by simp [*]; rfl) ?_ | refine IfG.t ?_ | refine IfG.f ?_ | (refine IfG.p (fun hg => ?_) (fun hg => ?_) <;> (try (have hg' := hg; simp at hg'))) | (refine IfG.n (fun hg => ?_) (fun hg => ?_) <;> (try (have hg' := hg; simp at hg'))) | (refine OutOK.gateP (fun hg => ?_) (fun hg => ?_) <;> (try (have hg' := hg; simp at hg'))) | (refine OutOK.gateN (fun hg => ?_) (fun hg => ?_) <;> (try (have hg' := hg; simp at hg'))) | (refine IfG.g (fun hg => ?_) (fun hg => ?_) <;> (try (have hg' := hg; simp at hg'))) | (refine OutOK.gate (fun hg => ?_) (fun hg => ?_) <;> (try (have hg' := hg; simp at hg'))) | refine OutOK.run (by simp [*]; rfl) ?_ | refine AW.ret ?_ | refine AW.skip ?_ | refine AW.exit ?_ | refine fin_r ?_ | refine fin_n ?_ | refine AW.block ?_ | refine blockQ_n ?_ | refine blockQ_r ?_ | refine blockQ_e ?_ | refine blockQ_o rfl ?_)
      exact ⟨i + 1, ⟨hil, hs4⟩, ⟨by simp, by simp, by simp⟩, by ((try (clear e0)); (try (clear e1)); (try (clear e2)); (try (clear e3)); (try (clear e4)); (try (clear e5)); (try (clear e6)); (try (clear e7)); (try (clear e8)); (try (clear e9)); (try (clear e10)); (try (clear e11)); omega)⟩
  · have hin : ¬ i < l.length := by omega
    have hb : B = true := yes.out ⟨hR, h24, fun j hj => (hs.out j hj hj).1, fun j hj => (hs.out j hj hj).2, fun j hj => hs2.out j hj hj, fun j hj => hs3.out j hj (by omega)⟩
    subst hb
    clear no yes
    repeat' (first | with_reducible refine OutOK.done ?_ | refine thenQ_n ?_ | refine thenQ_r ?_ | refine thenQ_e ?_ | refine AW.seq ?_ | refine AW.dreg tok mixed [15, 25, 26, 27, 28]  [(0, false), (2, false), (3, false), (1, false), (4, false), (5, false), (6, false), (7, false), (8, false), (9, false), (10, false), (11, false), (12, false), (13, false), (14, false), (15, true), (16, false), (17, false), (18, false), (19, false), (20, false), (21, false), (23, false), (24, false), (22, false), (25, true), (26, true), (27, true), (28, true), (29, false), (30, false)] (by decide +kernel) rfl (by simp [*]; rfl) ?_ | refine AW.dreg tok mixed [9, 13]  [(0, false), (3, false), (1, false), (2, false), (4, false), (5, false), (6, false), (8, false), (12, false), (7, false), (9, true), (10, false), (11, false), (13, true), (14, false), (15, false), (16, false), (17, false), (18, false), (19, false), (20, false), (21, false), (22, false), (23, false), (24, false), (25, false), (26, false), (27, false)] (by decide +kernel) rfl (by simp [*]; rfl) ?_ | refine AW.reg tok (by simp [*]; rfl) ?_ | refine AW.ifB (by simp [*]; rfl) ?_ | refine IfG.t ?_ | refine IfG.f ?_ | (refine IfG.p (fun hg => ?_) (fun hg => ?_) <;> (try (have hg' := hg; simp at hg'))) | (refine IfG.n (fun hg => ?_) (fun hg => ?_) <;> (try (have hg' := hg; simp at hg'))) | (refine OutOK.gateP (fun hg => ?_) (fun hg => ?_) <;> (try (have hg' := hg; simp at hg'))) | (refine OutOK.gateN (fun hg => ?_) (fun hg => ?_) <;> (try (have hg' := hg; simp at hg'))) | (refine IfG.g (fun hg => ?_) (fun hg => ?_) <;> (try (have hg' := hg; simp at hg'))) | (refine OutOK.gate (fun hg => ?_) (fun hg => ?_) <;> (try (have hg' := hg; simp at hg'))) | refine OutOK.run (by simp [*]; rfl) ?_ | refine AW.ret ?_ | refine AW.skip ?_ | refine AW.exit ?_ | refine fin_r ?_ | refine fin_n ?_ | refine AW.block ?_ | refine blockQ_n ?_ | refine blockQ_r ?_ | refine blockQ_e ?_ | refine blockQ_o rfl ?_)
    simp [Try.f26]
end Go.Proofs.Ytbofobjofngoeaa.EngS


set_option linter.unusedSimpArgs false
set_option linter.unusedVariables false
set_option maxHeartbeats 4000000
set_option maxRecDepth 100000
namespace Go.Proofs.Ytbofobjofngoeaa.EngS
open Go Go.Proofs Go.Eng Go.RowKit
attribute [local irreducible] Go.RowKit.wrap64
abbrev EdtX := Int × Int × List Int × ByteArray × ByteArray
def edtX (x : EdtX) : Edt := ⟨x.1, x.2.1, x.2.2.1, x.2.2.2.1, x.2.2.2.2⟩
theorem edts_X (l : List EdtX) : (l.map fun x => PV.ag [PV.sc (.int .i64 x.1), PV.sc (.int .i64 x.2.1), PV.sl true 1 (x.2.2.1.map (fun n => PV.sc (.int .i64 n))), PV.sc (.string x.2.2.2.1), PV.sc (.string x.2.2.2.2)]) = edts true (l.map edtX) := by
  rw [edts, els, List.map_map]; rfl
def WfX (x : List EdtX) : Prop := x.length ≤ maxLen ∧ ∀ y ∈ x, (Lit.int .i64 y.1).wf = true ∧ (Lit.int .i64 y.2.1).wf = true ∧ (y.2.2.1.length ≤ maxLen ∧ ∀ z ∈ y.2.2.1, (Lit.int .i64 z).wf = true) ∧ y.2.2.2.1.size ≤ maxLen ∧ y.2.2.2.2.size ≤ maxLen
theorem WfX.v {x : List EdtX} (h : WfX x) : (x.map edtX).length ≤ 9223372036854775807 ∧ ∀ e ∈ x.map edtX, EdtV e := by
  have hm : maxLen = 9223372036854775807 := rfl
  refine ⟨by rw [List.length_map, ← hm]; exact h.1, fun e he => ?_⟩
  obtain ⟨y, hy, rfl⟩ := List.mem_map.1 he
  obtain ⟨-, -, h3, h4, h5⟩ := h.2 y hy
  rw [hm] at h3 h4 h5
  exact ⟨h4, h5, h3.1⟩
theorem hist_len {l : List Edt} {n : Int} (h : hist l n = true) : l.length ≤ 24 := (hist_iff'.1 h).len
end Go.Proofs.Ytbofobjofngoeaa.EngS


set_option linter.unusedSimpArgs false
set_option linter.unusedVariables false
set_option maxHeartbeats 4000000
set_option maxRecDepth 10000
namespace Go.Proofs.Ytbofobjofngoeaa.EngS
open Go Go.Proofs Go.Eng Go.RowKit
end Go.Proofs.Ytbofobjofngoeaa.EngS


set_option linter.unusedSimpArgs false
set_option linter.unusedVariables false
set_option maxHeartbeats 4000000
set_option maxRecDepth 10000
namespace Go.Proofs.Ytbofobjofngoeaa.EngS
open Go Go.Proofs Go.Eng Go.RowKit
def gvn (l : List Smp) (i : Nat) : List Int := (List.range (l.length + 1)).map fun (p : Nat) => givI l p i
@[simp] theorem gvn_len (l i) : (gvn l i).length = l.length + 1 := by simp [gvn]
theorem gvn_zero (l) : gvn l 0 = List.replicate (l.length + 1) 0 := by
  apply List.ext_getElem
  · simp
  · intro j h1 h2; simp only [gvn, List.getElem_map, List.getElem_range, givI_zero, List.getElem_replicate]
end Go.Proofs.Ytbofobjofngoeaa.EngS


set_option linter.unusedSimpArgs false
set_option linter.unusedVariables false
set_option maxHeartbeats 4000000
set_option maxRecDepth 100000
namespace Go.Proofs.Ytbofobjofngoeaa.EngS
open Go Go.Proofs Go.Eng Go.RowKit
attribute [local irreducible] Go.RowKit.wrap64
theorem c_spec_l1Has (xs : List Int) (n : Int) (h : xs.length < 9223372036854775807) : ACall Try.prog 86 [.v (.sl true 1 (ints xs)), int n] [.x, .x] [boo (xs.any fun x => decide (x = n))] := by
  refine ACall.of (N := 18) tok Try.func86 rfl rfl rfl (by simp) ?_
  repeat' (first | with_reducible refine OutOK.done ?_ | refine thenQ_n ?_ | refine thenQ_r ?_ | refine thenQ_e ?_ | refine AW.seq ?_ | refine AW.reg tok (by simp [*]; rfl) ?_ | refine AW.ifB (by simp [*]; rfl) ?_ | refine IfG.t ?_ | refine IfG.f ?_ | (refine IfG.p (fun hg => ?_) (fun hg => ?_) <;> (try (have hg' := hg; simp at hg'))) | (refine IfG.n (fun hg => ?_) (fun hg => ?_) <;> (try (have hg' := hg; simp at hg'))) | (refine OutOK.gateP (fun hg => ?_) (fun hg => ?_) <;> (try (have hg' := hg; simp at hg'))) | (refine OutOK.gateN (fun hg => ?_) (fun hg => ?_) <;> (try (have hg' := hg; simp at hg'))) | (refine IfG.g (fun hg => ?_) (fun hg => ?_) <;> (try (have hg' := hg; simp at hg'))) | (refine OutOK.gate (fun hg => ?_) (fun hg => ?_) <;> (try (have hg' := hg; simp at hg'))) | refine OutOK.run (by simp [*]; rfl) ?_ | refine AW.ret ?_ | refine AW.skip ?_ | refine AW.exit ?_ | refine fin_r ?_ | refine fin_n ?_ | refine AW.block ?_ | refine blockQ_n ?_ | refine blockQ_r ?_ | refine blockQ_e ?_ | refine blockQ_o rfl ?_)
  refine AW.loopL (fun i => i ≤ xs.length ∧ Hd ((xs.take i).any (fun x => decide (x = n)) = false)) (fun i => [(0, .c (.sl true 1 (ints xs))), (1, .c (.sc (.int .i64 n))), (5, .c (.sc (.int .i64 (i : Int))))]) (fun _ => []) (fun i => xs.length - i) 0 ⟨Nat.zero_le _, by simp [Hd]⟩ ⟨by simp, by simp, by simp⟩ ?_
  rintro i ⟨hi, hs⟩
  rcases Nat.lt_or_ge i xs.length with hl | hl
  · have e1 : wrap64 ((i : Int) + 1) = ((i + 1 : Nat) : Int) := by rw [w64 (by omega) (by omega)]; omega
    by_cases hx : xs[i] = n
    · have ha : xs.any (fun x => decide (x = n)) = true := List.any_eq_true.2 ⟨_, List.getElem_mem hl, by simp [hx]⟩
      repeat' (first | with_reducible refine OutOK.done ?_ | refine thenQ_n ?_ | refine thenQ_r ?_ | refine thenQ_e ?_ | refine AW.seq ?_ | refine AW.reg tok (by simp [*]; rfl) ?_ | refine AW.ifB (by simp [*]; rfl) ?_ | refine IfG.t ?_ | refine IfG.f ?_ | (refine IfG.p (fun hg => ?_) (fun hg => ?_) <;> (try (have hg' := hg; simp at hg'))) | (refine IfG.n (fun hg => ?_) (fun hg => ?_) <;> (try (have hg' := hg; simp at hg'))) | (refine OutOK.gateP (fun hg => ?_) (fun hg => ?_) <;> (try (have hg' := hg; simp at hg'))) | (refine OutOK.gateN (fun hg => ?_) (fun hg => ?_) <;> (try (have hg' := hg; simp at hg'))) | (refine IfG.g (fun hg => ?_) (fun hg => ?_) <;> (try (have hg' := hg; simp at hg'))) | (refine OutOK.gate (fun hg => ?_) (fun hg => ?_) <;> (try (have hg' := hg; simp at hg'))) | refine OutOK.run (by simp [*]; rfl) ?_ | refine AW.ret ?_ | refine AW.skip ?_ | refine AW.exit ?_ | refine fin_r ?_ | refine fin_n ?_ | refine AW.block ?_ | refine blockQ_n ?_ | refine blockQ_r ?_ | refine blockQ_e ?_ | refine blockQ_o rfl ?_)
      simp [Try.f86]
      obtain ⟨y, hy, e⟩ := List.any_eq_true.1 ha
      simp only [decide_eq_true_eq] at e
      subst e; exact hy
    · repeat' (first | with_reducible refine OutOK.done ?_ | refine thenQ_n ?_ | refine thenQ_r ?_ | refine thenQ_e ?_ | refine AW.seq ?_ | refine AW.reg tok (by simp [*]; rfl) ?_ | refine AW.ifB (by simp [*]; rfl) ?_ | refine IfG.t ?_ | refine IfG.f ?_ | (refine IfG.p (fun hg => ?_) (fun hg => ?_) <;> (try (have hg' := hg; simp at hg'))) | (refine IfG.n (fun hg => ?_) (fun hg => ?_) <;> (try (have hg' := hg; simp at hg'))) | (refine OutOK.gateP (fun hg => ?_) (fun hg => ?_) <;> (try (have hg' := hg; simp at hg'))) | (refine OutOK.gateN (fun hg => ?_) (fun hg => ?_) <;> (try (have hg' := hg; simp at hg'))) | (refine IfG.g (fun hg => ?_) (fun hg => ?_) <;> (try (have hg' := hg; simp at hg'))) | (refine OutOK.gate (fun hg => ?_) (fun hg => ?_) <;> (try (have hg' := hg; simp at hg'))) | refine OutOK.run (by simp [*]; rfl) ?_ | refine AW.ret ?_ | refine AW.skip ?_ | refine AW.exit ?_ | refine fin_r ?_ | refine fin_n ?_ | refine AW.block ?_ | refine blockQ_n ?_ | refine blockQ_r ?_ | refine blockQ_e ?_ | refine blockQ_o rfl ?_)
      exact ⟨i + 1, ⟨hl, any_more hl hs.out (by simp [hx])⟩, ⟨by simp, by simp, by simp⟩, by ((try (clear e0)); (try (clear e1)); (try (clear e2)); (try (clear e3)); (try (clear e4)); (try (clear e5)); (try (clear e6)); (try (clear e7)); (try (clear e8)); (try (clear e9)); (try (clear e10)); (try (clear e11)); omega)⟩
  · have ha := any_end (p := fun x => decide (x = n)) hl hs.out
    have hii : i = xs.length := by omega
    subst hii
    repeat' (first | with_reducible refine OutOK.done ?_ | refine thenQ_n ?_ | refine thenQ_r ?_ | refine thenQ_e ?_ | refine AW.seq ?_ | refine AW.reg tok (by simp [*]; rfl) ?_ | refine AW.ifB (by simp [*]; rfl) ?_ | refine IfG.t ?_ | refine IfG.f ?_ | (refine IfG.p (fun hg => ?_) (fun hg => ?_) <;> (try (have hg' := hg; simp at hg'))) | (refine IfG.n (fun hg => ?_) (fun hg => ?_) <;> (try (have hg' := hg; simp at hg'))) | (refine OutOK.gateP (fun hg => ?_) (fun hg => ?_) <;> (try (have hg' := hg; simp at hg'))) | (refine OutOK.gateN (fun hg => ?_) (fun hg => ?_) <;> (try (have hg' := hg; simp at hg'))) | (refine IfG.g (fun hg => ?_) (fun hg => ?_) <;> (try (have hg' := hg; simp at hg'))) | (refine OutOK.gate (fun hg => ?_) (fun hg => ?_) <;> (try (have hg' := hg; simp at hg'))) | refine OutOK.run (by simp [*]; rfl) ?_ | refine AW.ret ?_ | refine AW.skip ?_ | refine AW.exit ?_ | refine fin_r ?_ | refine fin_n ?_ | refine AW.block ?_ | refine blockQ_n ?_ | refine blockQ_r ?_ | refine blockQ_e ?_ | refine blockQ_o rfl ?_)
    simp [Try.f86]
    rw [List.any_eq_false] at ha
    exact fun y hy => by simpa using ha y hy
end Go.Proofs.Ytbofobjofngoeaa.EngS


set_option linter.unusedSimpArgs false
set_option linter.unusedVariables false
set_option maxHeartbeats 4000000
set_option maxRecDepth 100000
namespace Go.Proofs.Ytbofobjofngoeaa.EngS
open Go Go.Proofs Go.Eng Go.RowKit
attribute [local irreducible] Go.RowKit.wrap64
def hasI (o : List Int) (i : Nat) : Bool := o.any fun x => decide (x = (i : Int))
theorem hasI_iff {o : List Int} {i : Nat} : hasI o i = true ↔ (i : Int) ∈ o := by simp [hasI]
theorem hasI_snoc (o : List Int) (a i : Nat) : hasI (o ++ [(a : Int)]) i = (hasI o i || decide (a = i)) := by
  simp only [hasI, List.any_append, List.any_cons, List.any_nil, Bool.or_false]
  congr 1
  by_cases h : a = i
  · subst h; simp
  · have : ¬ (a : Int) = (i : Int) := by omega
    simp [h, this]
def frB (l : List Edt) (o : List Int) (i k : Nat) : Bool := !(hasI o i) && (List.range k).all fun j => hasI o j || !(precE (l[j]?.getD default) (l[i]?.getD default))
theorem frB_zero (l o i) : frB l o i 0 = !(hasI o i) := by simp [frB]
theorem frB_step (l : List Edt) (o : List Int) (i k : Nat) (hi : i < l.length) (hk : k < l.length) : frB l o i (k + 1) = (frB l o i k && (hasI o k || !(precE l[k] l[i]))) := by
  rw [frB, frB, List.range_succ, List.all_append]
  simp [hi, hk, Bool.and_assoc]
def fre (l : List Edt) (o : List Int) (i : Nat) : Bool := frB l o i l.length
theorem fre_iff {l : List Edt} {o : List Int} {i : Nat} (hi : i < l.length) : fre l o i = true ↔ hasI o i = false ∧ ∀ k (hk : k < l.length), precE l[k] l[i] = true → hasI o k = true := by
  unfold fre frB
  rw [Bool.and_eq_true, Bool.not_eq_true', List.all_eq_true]
  constructor
  · rintro ⟨h1, h2⟩
    refine ⟨h1, fun k hk hp => ?_⟩
    have := h2 k (by simpa using hk)
    simpa [hi, hk, hp] using this
  · rintro ⟨h1, h2⟩
    refine ⟨h1, fun k hk => ?_⟩
    have hk' : k < l.length := by simpa using hk
    have := h2 k hk'
    simp only [List.getElem?_eq_getElem hk', List.getElem?_eq_getElem hi, Option.getD_some, Bool.or_eq_true, Bool.not_eq_true']
    cases hp : precE l[k] l[i] with
    | true => exact .inl (this hp)
    | false => exact .inr rfl
theorem sum_le : ∀ (a b : List Int), a.length = b.length → (∀ i < a.length, a[i]?.getD 0 ≤ b[i]?.getD 0) → a.sum ≤ b.sum
  | [], b, h, _ => by have : b = [] := List.length_eq_zero_iff.1 h.symm; subst this; exact Int.le_refl _
  | x :: a, [], h, _ => by simp at h
  | x :: a, y :: b, h, hs => by
    have h0 := hs 0 (by simp)
    have := sum_le a b (by simpa using h) (fun i hi => by have := hs (i + 1) (by simpa using hi); simpa using this)
    simp only [List.sum_cons]
    simp at h0
    omega
theorem sum_lt : ∀ (a b : List Int) (j : Nat), a.length = b.length → (∀ i < a.length, a[i]?.getD 0 ≤ b[i]?.getD 0) → j < a.length → a[j]?.getD 0 < b[j]?.getD 0 → a.sum < b.sum
  | [], b, j, h, _, hj, _ => by simp at hj
  | x :: a, [], j, h, _, _, _ => by simp at h
  | x :: a, y :: b, 0, h, hs, hj, hl => by
    have := sum_le a b (by simpa using h) (fun i hi => by have := hs (i + 1) (by simpa using hi); simpa using this)
    simp only [List.sum_cons]
    simp at hl
    omega
  | x :: a, y :: b, j + 1, h, hs, hj, hl => by
    have h0 := hs 0 (by simp)
    have := sum_lt a b j (by simpa using h) (fun i hi => by have := hs (i + 1) (by simpa using hi); simpa using this) (by simpa using hj) (by simpa using hl)
    simp only [List.sum_cons]
    simp at h0
    omega
theorem prec_sum {l : List Edt} {n : Int} (hh : Hist l n) {i k : Nat} (hi : i < l.length) (hk : k < l.length) (hp : precE l[k] l[i] = true) : l[k].ck.sum < l[i].ck.sum := by
  obtain ⟨h1, h2⟩ := hh.pr i hi k hk hp
  have hLi := (hh.fl i hi).1
  have hLk := (hh.fl k hk).1
  have hR := inR_iff.1 (hh.st i hi).1
  have hc := (hh.fl i hi).2.1
  obtain ⟨p1, p2, p3⟩ := precE_iff.1 hp
  have hj : l[i].tm.toNat < l[k].ck.length := by omega
  refine sum_lt _ _ l[i].tm.toNat (by omega) (noGr_iff.1 h2) hj ?_
  have h3 : ¬ l[i].ct ≤ ckAt l[k].ck l[i].tm := by
    intro h4
    have : precE l[i] l[k] = true := precE_iff.2 ⟨by omega, by omega, h4⟩
    rw [h1] at this; cases this
  unfold ckAt at h3 hc
  omega
theorem fre_ex {l : List Edt} {n : Int} (hh : Hist l n) (o : List Int) : ∀ (m : Nat) (i : Nat) (hi : i < l.length), (l[i].ck.sum - l[i].ck.sum + (m : Int) = (m : Int)) → hasI o i = false → (∀ k (hk : k < l.length), hasI o k = false → -(m : Int) ≤ l[k].ck.sum - l[i].ck.sum) → ∃ j, ∃ hj : j < l.length, fre l o j = true
  | 0, i, hi, _, h0, hm => by
    refine ⟨i, hi, (fre_iff hi).2 ⟨h0, fun k hk hp => ?_⟩⟩
    have := prec_sum hh hi hk hp
    cases hb : hasI o k with
    | true => rfl
    | false => have := hm k hk hb; omega
  | m + 1, i, hi, _, h0, hm => by
    by_cases hf : fre l o i = true
    · exact ⟨i, hi, hf⟩
    · have : ∃ k, ∃ hk : k < l.length, precE l[k] l[i] = true ∧ hasI o k = false := by
        refine Classical.byContradiction fun hn => hf ((fre_iff hi).2 ⟨h0, fun k hk hp => ?_⟩)
        cases hb : hasI o k with
        | true => rfl
        | false => exact absurd ⟨k, hk, hp, hb⟩ hn
      obtain ⟨k, hk, hp, hb⟩ := this
      have hs := prec_sum hh hi hk hp
      exact fre_ex hh o m k hk (by omega) hb (fun q hq hqb => by have := hm q hq hqb; push_cast at this; omega)
theorem has_all : ∀ (N : Nat) (o : List Int), (∀ i < N, hasI o i = true) → N ≤ o.length
  | 0, _, _ => Nat.zero_le _
  | N + 1, o, h => by
    have hm := hasI_iff.1 (h N (by omega))
    have := has_all N (o.erase (N : Int)) (fun i hi => hasI_iff.2 ((List.mem_erase_of_ne (by omega)).2 (hasI_iff.1 (h i (by omega)))))
    rw [List.length_erase_of_mem hm] at this
    have : 0 < o.length := List.length_pos_of_mem hm
    omega
def nxtI (l : List Edt) (o : List Int) : Nat := (List.range l.length).findIdx (fre l o)
def ordL (l : List Edt) : Nat → List Int
  | 0 => []
  | q + 1 => ordL l q ++ [(nxtI l (ordL l q) : Int)]
@[simp] theorem ordL_len (l q) : (ordL l q).length = q := by
  induction q with
  | zero => rfl
  | succ q ih => simp [ordL, ih]
theorem low_sum {l : List Edt} : ∃ m : Nat, ∀ i (hi : i < l.length) k (hk : k < l.length), -(m : Int) ≤ l[k].ck.sum - l[i].ck.sum := by
  have : ∃ B : Nat, ∀ e ∈ l, -(B : Int) ≤ e.ck.sum ∧ e.ck.sum ≤ B := by
    induction l with
    | nil => exact ⟨0, by simp⟩
    | cons x r ih =>
      obtain ⟨B, hB⟩ := ih
      refine ⟨B + x.ck.sum.natAbs, fun e he => ?_⟩
      rcases List.mem_cons.1 he with rfl | he
      · omega
      · have := hB e he; omega
  obtain ⟨B, hB⟩ := this
  refine ⟨2 * B, fun i hi k hk => ?_⟩
  have h1 := hB _ (List.getElem_mem hi)
  have h2 := hB _ (List.getElem_mem hk)
  omega
theorem nxt_ok {l : List Edt} {n : Int} (hh : Hist l n) (q : Nat) (hq : q < l.length) : nxtI l (ordL l q) < l.length ∧ fre l (ordL l q) (nxtI l (ordL l q)) = true ∧ ∀ j < nxtI l (ordL l q), fre l (ordL l q) j = false := by
  have hno : ∃ i, ∃ hi : i < l.length, hasI (ordL l q) i = false := by
    refine Classical.byContradiction fun hn => ?_
    have := has_all l.length (ordL l q) (fun i hi => by
      cases hb : hasI (ordL l q) i with
      | true => rfl
      | false => exact absurd ⟨i, hi, hb⟩ hn)
    rw [ordL_len] at this
    omega
  obtain ⟨i, hi, hb⟩ := hno
  obtain ⟨m, hm⟩ := low_sum (l := l)
  obtain ⟨j, hj, hf⟩ := fre_ex hh (ordL l q) m i hi (by omega) hb (fun k hk _ => hm i hi k hk)
  have hlt : nxtI l (ordL l q) < (List.range l.length).length := List.findIdx_lt_length_of_exists ⟨j, by simpa using hj, hf⟩
  have hlt' : nxtI l (ordL l q) < l.length := by simpa using hlt
  refine ⟨hlt', ?_, fun k hk => ?_⟩
  · have h1 : fre l (ordL l q) ((List.range l.length)[nxtI l (ordL l q)]'hlt) = true := List.findIdx_getElem (w := hlt)
    rw [List.getElem_range] at h1
    exact h1
  · have := List.not_of_lt_findIdx hk
    simpa using this
theorem nxt_first {l : List Edt} {o : List Int} {i : Nat} (hi : i < l.length) (hf : fre l o i = true) (hs : ∀ j < i, fre l o j = false) : nxtI l o = i := by
  have hlt : nxtI l o < (List.range l.length).length := List.findIdx_lt_length_of_exists ⟨i, by simpa using hi, hf⟩
  have h1 : fre l o ((List.range l.length)[nxtI l o]'hlt) = true := List.findIdx_getElem (w := hlt)
  rw [List.getElem_range] at h1
  rcases Nat.lt_trichotomy (nxtI l o) i with h | h | h
  · have := hs _ h; rw [this] at h1; cases h1
  · exact h
  · have := List.not_of_lt_findIdx (xs := List.range l.length) h; simp [hf] at this
def bls (xs : List Bool) : List PV := xs.map fun x => .sc (.bool x)
@[simp] theorem bls_len (xs) : (bls xs).length = xs.length := by simp [bls]
@[simp] theorem bls_get (xs : List Bool) (i : Nat) : (bls xs)[i]? = (xs[i]?).map fun x => .sc (.bool x) := by simp [bls]
@[simp] theorem bls_at (xs : List Bool) (i : Nat) (h : i < (bls xs).length) : (bls xs)[i] = .sc (.bool (xs[i]'(by simpa using h))) := by simp [bls]
@[simp] theorem bls_frz (xs) : PV.frzs (bls xs) = bls xs := by simp [bls]
@[simp] theorem rep_bls (n : Nat) (x : Bool) : List.replicate n (PV.sc (.bool x)) = bls (List.replicate n x) := by simp [bls]
@[simp] theorem bls_set (xs : List Bool) (i : Nat) (x : Bool) : (bls xs).set i (.sc (.bool x)) = bls (xs.set i x) := by simp [bls, List.map_set]
@[simp] theorem bls_nofz (xs : List Bool) : PV.nofzs (bls xs) = true := by
  induction xs with
  | nil => rfl
  | cons x xs ih => simpa [bls] using ih
@[simp] theorem bls_coks (xs : List Bool) : PV.coks (bls xs) = true := by
  induction xs with
  | nil => rfl
  | cons x xs ih => simpa [bls] using ih
def dnL (l : List Edt) (o : List Int) : List Bool := (List.range l.length).map (hasI o)
@[simp] theorem dnL_len (l o) : (dnL l o).length = l.length := by simp [dnL]
@[simp] theorem dnL_at (l : List Edt) (o : List Int) (i : Nat) (h : i < (dnL l o).length) : (dnL l o)[i] = hasI o i := by simp [dnL]
theorem dnL_nil (l : List Edt) : dnL l [] = List.replicate l.length false := by
  apply List.ext_getElem
  · simp
  · intro j h1 h2; simp [hasI]
theorem dnL_snoc (l : List Edt) (o : List Int) (a : Nat) : (dnL l o).set a true = dnL l (o ++ [(a : Int)]) := by
  apply List.ext_getElem
  · simp
  · intro j h1 h2
    rw [List.getElem_set]
    simp only [dnL_at, hasI_snoc]
    split
    · rename_i e; simp [e]
    · rename_i e; simp [e]
end Go.Proofs.Ytbofobjofngoeaa.EngS


set_option linter.unusedSimpArgs false
set_option linter.unusedVariables false
set_option maxHeartbeats 4000000
set_option maxRecDepth 100000
namespace Go.Proofs.Ytbofobjofngoeaa.EngS
open Go Go.Proofs Go.Eng Go.RowKit
attribute [local irreducible] Go.RowKit.wrap64
def CoKQ (l : List Edt) (o : List Int) (q i k : Nat) (hi : i < l.length) (e : Exit) (st : St) : Prop := e = .normal ∧ LessL st [(0, .c (.sl true 5 (edts true l))), (6, .rf 19000 []), (7, .rf 20000 []), (21, .c (.sl true 5 (edts true l))), (22, .c (.sc (.int .i64 (l.length : Int)))), (23, .c (.sc (.int .i64 (q : Int)))), (25, .c (.sl true 5 (edts true l))), (26, .c (.sc (.int .i64 (l.length : Int)))), (27, .c (.sc (.int .i64 (i : Int)))), (8, .c (.sc (.int .i64 (i : Int)))), (9, .pt 9000 [] 0), (10, .c (.sc (.bool (frB l o i (k + 1))))), (37, .c (.sl true 5 (edts true l))), (38, .c (.sc (.int .i64 (l.length : Int)))), (39, .c (.sc (.int .i64 ((k + 1 : Nat) : Int))))] [(19000, .sv (.sl false 1 (bls (dnL l o)))), (20000, .sv (.sl false 1 (ints o))), (9000, .bx (edtC true l[i]))]
theorem w_coKa (l : List Edt) (o : List Int) (q i k : Nat) (hi : i < l.length) (hk : k < l.length) (hl : l.length ≤ 24) (hci : l[i].ck.length ≤ 3) (h1 : frB l o i k = false) : AW Try.prog 69 (cAt Try.f37 [2, 2, 2, 2, 1, 2, 5, 7, 2, 2, 1, 5, 2, 5, 7, 2, 2, 1, 5, 2, 2, 1, 2, 5, 7]) (mk [(0, .c (.sl true 5 (edts true l))), (6, .rf 19000 []), (7, .rf 20000 []), (21, .c (.sl true 5 (edts true l))), (22, .c (.sc (.int .i64 (l.length : Int)))), (23, .c (.sc (.int .i64 (q : Int)))), (25, .c (.sl true 5 (edts true l))), (26, .c (.sc (.int .i64 (l.length : Int)))), (27, .c (.sc (.int .i64 (i : Int)))), (8, .c (.sc (.int .i64 (i : Int)))), (9, .pt 9000 [] 0), (10, .c (.sc (.bool (frB l o i k)))), (37, .c (.sl true 5 (edts true l))), (38, .c (.sc (.int .i64 (l.length : Int)))), (39, .c (.sc (.int .i64 (k : Int))))] [(19000, .sv (.sl false 1 (bls (dnL l o)))), (20000, .sv (.sl false 1 (ints o))), (9000, .bx (edtC true l[i]))]) (CoKQ l o q i k hi) := by
  have e1 : wrap64 ((k : Int) + 1) = ((k + 1 : Nat) : Int) := by rw [w64 (by omega) (by omega)]; omega
  have hst : Hd (frB l o i (k + 1) = (frB l o i k && (hasI o k || !(precE l[k] l[i])))) := frB_step l o i k hi hk
  have hkd : k < (dnL l o).length := by simpa using hk
  have hat : (dnL l o)[k] = hasI o k := dnL_at l o k hkd
  have cp := c_impl_Precedes l[k] l[i] (by omega)
  generalize frB l o i k = fb at *
  generalize hD : dnL l o = D at *
  have hD' : Hd _ := hD
  clear hD
  generalize precE l[k] l[i] = pe at *
  generalize hasI o k = hk2 at *
  subst h1
  repeat' (first | with_reducible refine OutOK.done ?_ | refine thenQ_n ?_ | refine thenQ_r ?_ | refine thenQ_e ?_ | refine AW.seq ?_ | refine AW.reg tok (by simp [*]; rfl) ?_ | refine AW.ifB (by simp [*]; rfl) ?_ | refine IfG.t ?_ | refine IfG.f ?_ | (refine IfG.p (fun hg => ?_) (fun hg => ?_) <;> (try (have hg' := hg; simp at hg'))) | (refine IfG.n (fun hg => ?_) (fun hg => ?_) <;> (try (have hg' := hg; simp at hg'))) | (refine OutOK.gateP (fun hg => ?_) (fun hg => ?_) <;> (try (have hg' := hg; simp at hg'))) | (refine OutOK.gateN (fun hg => ?_) (fun hg => ?_) <;> (try (have hg' := hg; simp at hg'))) | (refine IfG.g (fun hg => ?_) (fun hg => ?_) <;> (try (have hg' := hg; simp at hg'))) | (refine OutOK.gate (fun hg => ?_) (fun hg => ?_) <;> (try (have hg' := hg; simp at hg'))) | (refine OutOK.callF [] (by simp [*]; rfl) (by simp [*]; rfl) (by simp [*]; rfl) hb40 (by apply cp <;> first | assumption | exact Hd.out (by assumption) | ((try (clear e0)); (try (clear e1)); (try (clear e2)); (try (clear e3)); (try (clear e4)); (try (clear e5)); (try (clear e6)); (try (clear e7)); (try (clear e8)); (try (clear e9)); (try (clear e10)); (try (clear e11)); omega)) ⟨by simp [*], by simp [*], by simp [*], by simp [*], by simp [*]⟩ (by simp [*]) (by simp [*]; rfl) ?_) | refine OutOK.run (by simp [*]; rfl) ?_ | refine AW.ret ?_ | refine AW.skip ?_ | refine AW.exit ?_ | refine fin_r ?_ | refine fin_n ?_ | refine AW.block ?_ | refine blockQ_n ?_ | refine blockQ_r ?_ | refine blockQ_e ?_ | refine blockQ_o rfl ?_)
  all_goals exact ⟨rfl, by simp [hst.out], by simp [hD'.out], by simp⟩
theorem w_coKb (l : List Edt) (o : List Int) (q i k : Nat) (hi : i < l.length) (hk : k < l.length) (hl : l.length ≤ 24) (hci : l[i].ck.length ≤ 3) (h1 : frB l o i k = true) (h2 : hasI o k = true) : AW Try.prog 69 (cAt Try.f37 [2, 2, 2, 2, 1, 2, 5, 7, 2, 2, 1, 5, 2, 5, 7, 2, 2, 1, 5, 2, 2, 1, 2, 5, 7]) (mk [(0, .c (.sl true 5 (edts true l))), (6, .rf 19000 []), (7, .rf 20000 []), (21, .c (.sl true 5 (edts true l))), (22, .c (.sc (.int .i64 (l.length : Int)))), (23, .c (.sc (.int .i64 (q : Int)))), (25, .c (.sl true 5 (edts true l))), (26, .c (.sc (.int .i64 (l.length : Int)))), (27, .c (.sc (.int .i64 (i : Int)))), (8, .c (.sc (.int .i64 (i : Int)))), (9, .pt 9000 [] 0), (10, .c (.sc (.bool (frB l o i k)))), (37, .c (.sl true 5 (edts true l))), (38, .c (.sc (.int .i64 (l.length : Int)))), (39, .c (.sc (.int .i64 (k : Int))))] [(19000, .sv (.sl false 1 (bls (dnL l o)))), (20000, .sv (.sl false 1 (ints o))), (9000, .bx (edtC true l[i]))]) (CoKQ l o q i k hi) := by
  have e1 : wrap64 ((k : Int) + 1) = ((k + 1 : Nat) : Int) := by rw [w64 (by omega) (by omega)]; omega
  have hst : Hd (frB l o i (k + 1) = (frB l o i k && (hasI o k || !(precE l[k] l[i])))) := frB_step l o i k hi hk
  have hkd : k < (dnL l o).length := by simpa using hk
  have hat : (dnL l o)[k] = hasI o k := dnL_at l o k hkd
  have cp := c_impl_Precedes l[k] l[i] (by omega)
  generalize frB l o i k = fb at *
  generalize hD : dnL l o = D at *
  have hD' : Hd _ := hD
  clear hD
  generalize precE l[k] l[i] = pe at *
  generalize hasI o k = hk2 at *
  subst h1
  subst h2
  repeat' (first | with_reducible refine OutOK.done ?_ | refine thenQ_n ?_ | refine thenQ_r ?_ | refine thenQ_e ?_ | refine AW.seq ?_ | refine AW.reg tok (by simp [*]; rfl) ?_ | refine AW.ifB (by simp [*]; rfl) ?_ | refine IfG.t ?_ | refine IfG.f ?_ | (refine IfG.p (fun hg => ?_) (fun hg => ?_) <;> (try (have hg' := hg; simp at hg'))) | (refine IfG.n (fun hg => ?_) (fun hg => ?_) <;> (try (have hg' := hg; simp at hg'))) | (refine OutOK.gateP (fun hg => ?_) (fun hg => ?_) <;> (try (have hg' := hg; simp at hg'))) | (refine OutOK.gateN (fun hg => ?_) (fun hg => ?_) <;> (try (have hg' := hg; simp at hg'))) | (refine IfG.g (fun hg => ?_) (fun hg => ?_) <;> (try (have hg' := hg; simp at hg'))) | (refine OutOK.gate (fun hg => ?_) (fun hg => ?_) <;> (try (have hg' := hg; simp at hg'))) | (refine OutOK.callF [] (by simp [*]; rfl) (by simp [*]; rfl) (by simp [*]; rfl) hb40 (by apply cp <;> first | assumption | exact Hd.out (by assumption) | ((try (clear e0)); (try (clear e1)); (try (clear e2)); (try (clear e3)); (try (clear e4)); (try (clear e5)); (try (clear e6)); (try (clear e7)); (try (clear e8)); (try (clear e9)); (try (clear e10)); (try (clear e11)); omega)) ⟨by simp [*], by simp [*], by simp [*], by simp [*], by simp [*]⟩ (by simp [*]) (by simp [*]; rfl) ?_) | refine OutOK.run (by simp [*]; rfl) ?_ | refine AW.ret ?_ | refine AW.skip ?_ | refine AW.exit ?_ | refine fin_r ?_ | refine fin_n ?_ | refine AW.block ?_ | refine blockQ_n ?_ | refine blockQ_r ?_ | refine blockQ_e ?_ | refine blockQ_o rfl ?_)
  all_goals exact ⟨rfl, by simp [hst.out], by simp [hD'.out], by simp⟩
theorem w_coKc (l : List Edt) (o : List Int) (q i k : Nat) (hi : i < l.length) (hk : k < l.length) (hl : l.length ≤ 24) (hci : l[i].ck.length ≤ 3) (h1 : frB l o i k = true) (h2 : hasI o k = false) : AW Try.prog 69 (cAt Try.f37 [2, 2, 2, 2, 1, 2, 5, 7, 2, 2, 1, 5, 2, 5, 7, 2, 2, 1, 5, 2, 2, 1, 2, 5, 7]) (mk [(0, .c (.sl true 5 (edts true l))), (6, .rf 19000 []), (7, .rf 20000 []), (21, .c (.sl true 5 (edts true l))), (22, .c (.sc (.int .i64 (l.length : Int)))), (23, .c (.sc (.int .i64 (q : Int)))), (25, .c (.sl true 5 (edts true l))), (26, .c (.sc (.int .i64 (l.length : Int)))), (27, .c (.sc (.int .i64 (i : Int)))), (8, .c (.sc (.int .i64 (i : Int)))), (9, .pt 9000 [] 0), (10, .c (.sc (.bool (frB l o i k)))), (37, .c (.sl true 5 (edts true l))), (38, .c (.sc (.int .i64 (l.length : Int)))), (39, .c (.sc (.int .i64 (k : Int))))] [(19000, .sv (.sl false 1 (bls (dnL l o)))), (20000, .sv (.sl false 1 (ints o))), (9000, .bx (edtC true l[i]))]) (CoKQ l o q i k hi) := by
  have e1 : wrap64 ((k : Int) + 1) = ((k + 1 : Nat) : Int) := by rw [w64 (by omega) (by omega)]; omega
  have hst : Hd (frB l o i (k + 1) = (frB l o i k && (hasI o k || !(precE l[k] l[i])))) := frB_step l o i k hi hk
  have hkd : k < (dnL l o).length := by simpa using hk
  have hat : (dnL l o)[k] = hasI o k := dnL_at l o k hkd
  have cp := c_impl_Precedes l[k] l[i] (by omega)
  generalize frB l o i k = fb at *
  generalize hD : dnL l o = D at *
  have hD' : Hd _ := hD
  clear hD
  generalize precE l[k] l[i] = pe at *
  generalize hasI o k = hk2 at *
  subst h1
  subst h2
  repeat' (first | with_reducible refine OutOK.done ?_ | refine thenQ_n ?_ | refine thenQ_r ?_ | refine thenQ_e ?_ | refine AW.seq ?_ | refine AW.reg tok (by simp [*]; rfl) ?_ | refine AW.ifB (by simp [*]; rfl) ?_ | refine IfG.t ?_ | refine IfG.f ?_ | (refine IfG.p (fun hg => ?_) (fun hg => ?_) <;> (try (have hg' := hg; simp at hg'))) | (refine IfG.n (fun hg => ?_) (fun hg => ?_) <;> (try (have hg' := hg; simp at hg'))) | (refine OutOK.gateP (fun hg => ?_) (fun hg => ?_) <;> (try (have hg' := hg; simp at hg'))) | (refine OutOK.gateN (fun hg => ?_) (fun hg => ?_) <;> (try (have hg' := hg; simp at hg'))) | (refine IfG.g (fun hg => ?_) (fun hg => ?_) <;> (try (have hg' := hg; simp at hg'))) | (refine OutOK.gate (fun hg => ?_) (fun hg => ?_) <;> (try (have hg' := hg; simp at hg'))) | (refine OutOK.callF [] (by simp [*]; rfl) (by simp [*]; rfl) (by simp [*]; rfl) hb40 (by apply cp <;> first | assumption | exact Hd.out (by assumption) | ((try (clear e0)); (try (clear e1)); (try (clear e2)); (try (clear e3)); (try (clear e4)); (try (clear e5)); (try (clear e6)); (try (clear e7)); (try (clear e8)); (try (clear e9)); (try (clear e10)); (try (clear e11)); omega)) ⟨by simp [*], by simp [*], by simp [*], by simp [*], by simp [*]⟩ (by simp [*]) (by simp [*]; rfl) ?_) | refine OutOK.run (by simp [*]; rfl) ?_ | refine AW.ret ?_ | refine AW.skip ?_ | refine AW.exit ?_ | refine fin_r ?_ | refine fin_n ?_ | refine AW.block ?_ | refine blockQ_n ?_ | refine blockQ_r ?_ | refine blockQ_e ?_ | refine blockQ_o rfl ?_)
  all_goals exact ⟨rfl, by simp [hst.out], by simp [hD'.out], by simp⟩
theorem w_coK (l : List Edt) (o : List Int) (q i k : Nat) (hi : i < l.length) (hk : k < l.length) (hl : l.length ≤ 24) (hci : l[i].ck.length ≤ 3) : AW Try.prog 69 (cAt Try.f37 [2, 2, 2, 2, 1, 2, 5, 7, 2, 2, 1, 5, 2, 5, 7, 2, 2, 1, 5, 2, 2, 1, 2, 5, 7]) (mk [(0, .c (.sl true 5 (edts true l))), (6, .rf 19000 []), (7, .rf 20000 []), (21, .c (.sl true 5 (edts true l))), (22, .c (.sc (.int .i64 (l.length : Int)))), (23, .c (.sc (.int .i64 (q : Int)))), (25, .c (.sl true 5 (edts true l))), (26, .c (.sc (.int .i64 (l.length : Int)))), (27, .c (.sc (.int .i64 (i : Int)))), (8, .c (.sc (.int .i64 (i : Int)))), (9, .pt 9000 [] 0), (10, .c (.sc (.bool (frB l o i k)))), (37, .c (.sl true 5 (edts true l))), (38, .c (.sc (.int .i64 (l.length : Int)))), (39, .c (.sc (.int .i64 (k : Int))))] [(19000, .sv (.sl false 1 (bls (dnL l o)))), (20000, .sv (.sl false 1 (ints o))), (9000, .bx (edtC true l[i]))]) (CoKQ l o q i k hi) := by
  by_cases h1 : frB l o i k = true
  · by_cases h2 : hasI o k = true
    · exact w_coKb l o q i k hi hk hl hci h1 h2
    · exact w_coKc l o q i k hi hk hl hci h1 (by simpa using h2)
  · exact w_coKa l o q i k hi hk hl hci (by simpa using h1)
def CoIQ (l : List Edt) (o : List Int) (q i : Nat) (e : Exit) (st : St) : Prop :=
  (e = .exit 2 ∧ fre l o i = true ∧ LessL st [(0, .c (.sl true 5 (edts true l))), (6, .rf 19000 []), (7, .rf 65000 []), (21, .c (.sl true 5 (edts true l))), (22, .c (.sc (.int .i64 (l.length : Int)))), (23, .c (.sc (.int .i64 (q : Int))))] [(19000, .sv (.sl false 1 (bls (dnL l (o ++ [(i : Int)]))))), (65000, .sv (.sl false 1 (ints (o ++ [(i : Int)]))))]) ∨ (e = .normal ∧ fre l o i = false ∧ LessL st [(0, .c (.sl true 5 (edts true l))), (6, .rf 19000 []), (7, .rf 20000 []), (21, .c (.sl true 5 (edts true l))), (22, .c (.sc (.int .i64 (l.length : Int)))), (23, .c (.sc (.int .i64 (q : Int)))), (25, .c (.sl true 5 (edts true l))), (26, .c (.sc (.int .i64 (l.length : Int)))), (27, .c (.sc (.int .i64 ((i + 1 : Nat) : Int))))] [(19000, .sv (.sl false 1 (bls (dnL l o)))), (20000, .sv (.sl false 1 (ints o)))])
theorem w_coI (l : List Edt) (o : List Int) (q i : Nat) (hi : i < l.length) (hl : l.length ≤ 24) (ho : o.length ≤ 24) (hck : ∀ e ∈ l, e.ck.length ≤ 3) : AW Try.prog 69 (cAt Try.f37 [2, 2, 2, 2, 1, 2, 5, 7, 2, 2, 1, 5, 2, 5, 7]) (mk [(0, .c (.sl true 5 (edts true l))), (6, .rf 19000 []), (7, .rf 20000 []), (21, .c (.sl true 5 (edts true l))), (22, .c (.sc (.int .i64 (l.length : Int)))), (23, .c (.sc (.int .i64 (q : Int)))), (25, .c (.sl true 5 (edts true l))), (26, .c (.sc (.int .i64 (l.length : Int)))), (27, .c (.sc (.int .i64 (i : Int))))] [(19000, .sv (.sl false 1 (bls (dnL l o)))), (20000, .sv (.sl false 1 (ints o)))]) (CoIQ l o q i) := by
  have e1 : wrap64 ((i : Int) + 1) = ((i + 1 : Nat) : Int) := by rw [w64 (by omega) (by omega)]; omega
  have hci := hck _ (List.getElem_mem hi)
  have hz : Hd (frB l o i 0 = !(hasI o i)) := frB_zero l o i
  have hdn : Hd ((dnL l o).set i true = dnL l (o ++ [(i : Int)])) := dnL_snoc l o i
  have b1 : (o.length + 1) * 8 ≤ 140737488355328 := by omega
  have b2 : o.length + 1 ≤ 4611686018427387904 := by omega
  obtain ⟨D, hD⟩ : ∃ D, D = dnL l o := ⟨_, rfl⟩
  obtain ⟨hb, hhb⟩ : ∃ hb, hb = hasI o i := ⟨_, rfl⟩
  have hid : i < D.length := by rw [hD]; simpa using hi
  have hat : D[i] = hb := by subst hD hhb; exact dnL_at l o i _
  rw [← hD]
  have hz' : Hd (frB l o i 0 = !hb) := by rw [Hd, hz.out, hhb]
  have hD' : Hd _ := hD
  clear hD hhb hz
  repeat' (first | with_reducible refine OutOK.done ?_ | refine thenQ_n ?_ | refine thenQ_r ?_ | refine thenQ_e ?_ | refine AW.seq ?_ | refine AW.reg tok (by simp [*]; rfl) ?_ | refine AW.ifB (by simp [*]; rfl) ?_ | refine IfG.t ?_ | refine IfG.f ?_ | (refine IfG.p (fun hg => ?_) (fun hg => ?_) <;> (try (have hg' := hg; simp at hg'))) | (refine IfG.n (fun hg => ?_) (fun hg => ?_) <;> (try (have hg' := hg; simp at hg'))) | (refine OutOK.gateP (fun hg => ?_) (fun hg => ?_) <;> (try (have hg' := hg; simp at hg'))) | (refine OutOK.gateN (fun hg => ?_) (fun hg => ?_) <;> (try (have hg' := hg; simp at hg'))) | (refine IfG.g (fun hg => ?_) (fun hg => ?_) <;> (try (have hg' := hg; simp at hg'))) | (refine OutOK.gate (fun hg => ?_) (fun hg => ?_) <;> (try (have hg' := hg; simp at hg'))) | refine OutOK.run (by simp [*]; rfl) ?_ | refine AW.ret ?_ | refine AW.skip ?_ | refine AW.exit ?_ | refine fin_r ?_ | refine fin_n ?_ | refine AW.block ?_ | refine blockQ_n ?_ | refine blockQ_r ?_ | refine blockQ_e ?_ | refine blockQ_o rfl ?_)
  have hat' : Hd _ := hat
  clear hat
  refine AW.loopL (α := Nat) (fun k => k ≤ l.length) (fun k => [(0, .c (.sl true 5 (edts true l))), (6, .rf 19000 []), (7, .rf 20000 []), (21, .c (.sl true 5 (edts true l))), (22, .c (.sc (.int .i64 (l.length : Int)))), (23, .c (.sc (.int .i64 (q : Int)))), (25, .c (.sl true 5 (edts true l))), (26, .c (.sc (.int .i64 (l.length : Int)))), (27, .c (.sc (.int .i64 (i : Int)))), (8, .c (.sc (.int .i64 (i : Int)))), (9, .pt 9000 [] 0), (10, .c (.sc (.bool (frB l o i k)))), (37, .c (.sl true 5 (edts true l))), (38, .c (.sc (.int .i64 (l.length : Int)))), (39, .c (.sc (.int .i64 (k : Int))))]) (fun _ => [(19000, .sv (.sl false 1 (bls D))), (20000, .sv (.sl false 1 (ints o))), (9000, .bx (edtC true l[i]))]) (fun k => l.length - k) 0 (Nat.zero_le _) ⟨by simp [hz'.out], by simp, by simp⟩ ?_
  intro k hk
  rcases Nat.lt_or_ge k l.length with hkl | hkl
  · rw [hD'.out]
    refine (w_coK l o q i k hi hkl hl hci).mono fun e st hq => ?_
    obtain ⟨rfl, hq⟩ := hq
    exact ⟨k + 1, hkl, hq, by omega⟩
  · have hkk : k = l.length := by omega
    subst hkk
    rw [show frB l o i l.length = fre l o i from rfl]
    have hkn : ¬ l.length < l.length := by omega
    have hset : Hd (D.set i true = dnL l (o ++ [(i : Int)])) := by rw [Hd, hD'.out, hdn.out]
    cases hf : fre l o i with
    | true =>
      have hf' : Hd _ := hf
      clear hf
      repeat' (first | with_reducible refine OutOK.done ?_ | refine thenQ_n ?_ | refine thenQ_r ?_ | refine thenQ_e ?_ | refine AW.seq ?_ | refine AW.reg tok (by simp [*]; rfl) ?_ | refine AW.ifB (by simp [*]; rfl) ?_ | refine IfG.t ?_ | refine IfG.f ?_ | (refine IfG.p (fun hg => ?_) (fun hg => ?_) <;> (try (have hg' := hg; simp at hg'))) | (refine IfG.n (fun hg => ?_) (fun hg => ?_) <;> (try (have hg' := hg; simp at hg'))) | (refine OutOK.gateP (fun hg => ?_) (fun hg => ?_) <;> (try (have hg' := hg; simp at hg'))) | (refine OutOK.gateN (fun hg => ?_) (fun hg => ?_) <;> (try (have hg' := hg; simp at hg'))) | (refine IfG.g (fun hg => ?_) (fun hg => ?_) <;> (try (have hg' := hg; simp at hg'))) | (refine OutOK.gate (fun hg => ?_) (fun hg => ?_) <;> (try (have hg' := hg; simp at hg'))) | refine OutOK.run (by simp [*]; rfl) ?_ | refine AW.ret ?_ | refine AW.skip ?_ | refine AW.exit ?_ | refine fin_r ?_ | refine fin_n ?_ | refine AW.block ?_ | refine blockQ_n ?_ | refine blockQ_r ?_ | refine blockQ_e ?_ | refine blockQ_o rfl ?_)
      exact .inl ⟨rfl, hf'.out, by simp, by simp [hset.out], by simp⟩
    | false =>
      have hf' : Hd _ := hf
      clear hf
      repeat' (first | with_reducible refine OutOK.done ?_ | refine thenQ_n ?_ | refine thenQ_r ?_ | refine thenQ_e ?_ | refine AW.seq ?_ | refine AW.reg tok (by simp [*]; rfl) ?_ | refine AW.ifB (by simp [*]; rfl) ?_ | refine IfG.t ?_ | refine IfG.f ?_ | (refine IfG.p (fun hg => ?_) (fun hg => ?_) <;> (try (have hg' := hg; simp at hg'))) | (refine IfG.n (fun hg => ?_) (fun hg => ?_) <;> (try (have hg' := hg; simp at hg'))) | (refine OutOK.gateP (fun hg => ?_) (fun hg => ?_) <;> (try (have hg' := hg; simp at hg'))) | (refine OutOK.gateN (fun hg => ?_) (fun hg => ?_) <;> (try (have hg' := hg; simp at hg'))) | (refine IfG.g (fun hg => ?_) (fun hg => ?_) <;> (try (have hg' := hg; simp at hg'))) | (refine OutOK.gate (fun hg => ?_) (fun hg => ?_) <;> (try (have hg' := hg; simp at hg'))) | refine OutOK.run (by simp [*]; rfl) ?_ | refine AW.ret ?_ | refine AW.skip ?_ | refine AW.exit ?_ | refine fin_r ?_ | refine fin_n ?_ | refine AW.block ?_ | refine blockQ_n ?_ | refine blockQ_r ?_ | refine blockQ_e ?_ | refine blockQ_o rfl ?_)
      exact .inr ⟨rfl, hf'.out, by simp, by simp [hD'.out], by simp⟩
noncomputable def ordR (l : List Edt) (n : Int) : List Int := if hist l n = true then ordL l l.length else []
theorem ordR_len (l n) : (ordR l n).length ≤ 24 := by
  unfold ordR
  split
  · rename_i h; rw [ordL_len]; exact hist_len h
  · simp
theorem hist_ck2 {l : List Edt} {n : Int} (h : hist l n = true) : ∀ e ∈ l, e.ck.length ≤ 3 := by
  have hh := hist_iff'.1 h
  intro e he
  obtain ⟨i, hi, rfl⟩ := List.getElem_of_mem he
  have := (hh.fl i hi).1
  have := (inR_iff.1 hh.nn).2
  omega
theorem c_impl_CausalOrder (l : List Edt) (n : Int) (h : l.length ≤ 1048576) (hb : ∀ e ∈ l, EdtB e) : ACall Try.prog 37 [.v (.sl true 5 (edts true l)), int n] [.x, .x] [.v (.sl false 1 (ints (ordR l n))), boo (hist l n)] := by
  have cg := c_impl_IsValidHistory l n (by omega) (fun e he => (hb e he).w)
  cases hh : hist l n with
  | false =>
    rw [hh] at cg
    have : ordR l n = [] := by simp [ordR, hh]
    rw [this]
    clear this hb hh
    refine ACall.of (N := 69) tok Try.func37 rfl rfl rfl (by simp) ?_
    repeat' (first | with_reducible refine OutOK.done ?_ | refine thenQ_n ?_ | refine thenQ_r ?_ | refine thenQ_e ?_ | refine AW.seq ?_ | refine AW.reg tok (by simp [*]; rfl) ?_ | refine AW.ifB (by simp [*]; rfl) ?_ | refine IfG.t ?_ | refine IfG.f ?_ | (refine IfG.p (fun hg => ?_) (fun hg => ?_) <;> (try (have hg' := hg; simp at hg'))) | (refine IfG.n (fun hg => ?_) (fun hg => ?_) <;> (try (have hg' := hg; simp at hg'))) | (refine OutOK.gateP (fun hg => ?_) (fun hg => ?_) <;> (try (have hg' := hg; simp at hg'))) | (refine OutOK.gateN (fun hg => ?_) (fun hg => ?_) <;> (try (have hg' := hg; simp at hg'))) | (refine IfG.g (fun hg => ?_) (fun hg => ?_) <;> (try (have hg' := hg; simp at hg'))) | (refine OutOK.gate (fun hg => ?_) (fun hg => ?_) <;> (try (have hg' := hg; simp at hg'))) | (refine OutOK.callF [] (by simp [*]; rfl) (by simp [*]; rfl) (by simp [*]; rfl) hb26 (by apply cg <;> first | assumption | exact Hd.out (by assumption) | ((try (clear e0)); (try (clear e1)); (try (clear e2)); (try (clear e3)); (try (clear e4)); (try (clear e5)); (try (clear e6)); (try (clear e7)); (try (clear e8)); (try (clear e9)); (try (clear e10)); (try (clear e11)); omega)) ⟨by simp [*], by simp [*], by simp [*], by simp [*], by simp [*]⟩ (by simp [*]) (by simp [*]; rfl) ?_) | refine OutOK.run (by simp [*]; rfl) ?_ | refine AW.ret ?_ | refine AW.skip ?_ | refine AW.exit ?_ | refine fin_r ?_ | refine fin_n ?_ | refine AW.block ?_ | refine blockQ_n ?_ | refine blockQ_r ?_ | refine blockQ_e ?_ | refine blockQ_o rfl ?_)
    simp [Try.f37]
  | true =>
    rw [hh] at cg
    have hor : Hd (ordR l n = ordL l l.length) := by simp [Hd, ordR, hh]
    have hck' : Hd _ := hist_ck2 hh
    have hl := hist_len hh
    have hnx : Hd (∀ q, q < l.length → _) := fun q hq => nxt_ok (hist_iff'.1 hh) q hq
    have b1 : l.length * 1 ≤ 140737488355328 := by omega
    have b2 : (l.length : Int) * 1 ≤ 140737488355328 := by omega
    have b3 : (l.length : Int) ≤ 4611686018427387904 := by omega
    have b4 : (l.length : Int) ≤ 140737488355328 := by omega
    have hdz : Hd (dnL l [] = List.replicate l.length false) := dnL_nil l
    generalize ordR l n = R at *
    clear hb hh
    refine ACall.of (N := 69) tok Try.func37 rfl rfl rfl (by simp) ?_
    repeat' (first | with_reducible refine OutOK.done ?_ | refine thenQ_n ?_ | refine thenQ_r ?_ | refine thenQ_e ?_ | refine AW.seq ?_ | refine AW.reg tok (by simp [*]; rfl) ?_ | refine AW.ifB (by simp [*]; rfl) ?_ | refine IfG.t ?_ | refine IfG.f ?_ | (refine IfG.p (fun hg => ?_) (fun hg => ?_) <;> (try (have hg' := hg; simp at hg'))) | (refine IfG.n (fun hg => ?_) (fun hg => ?_) <;> (try (have hg' := hg; simp at hg'))) | (refine OutOK.gateP (fun hg => ?_) (fun hg => ?_) <;> (try (have hg' := hg; simp at hg'))) | (refine OutOK.gateN (fun hg => ?_) (fun hg => ?_) <;> (try (have hg' := hg; simp at hg'))) | (refine IfG.g (fun hg => ?_) (fun hg => ?_) <;> (try (have hg' := hg; simp at hg'))) | (refine OutOK.gate (fun hg => ?_) (fun hg => ?_) <;> (try (have hg' := hg; simp at hg'))) | (refine OutOK.callF [] (by simp [*]; rfl) (by simp [*]; rfl) (by simp [*]; rfl) hb26 (by apply cg <;> first | assumption | exact Hd.out (by assumption) | ((try (clear e0)); (try (clear e1)); (try (clear e2)); (try (clear e3)); (try (clear e4)); (try (clear e5)); (try (clear e6)); (try (clear e7)); (try (clear e8)); (try (clear e9)); (try (clear e10)); (try (clear e11)); omega)) ⟨by simp [*], by simp [*], by simp [*], by simp [*], by simp [*]⟩ (by simp [*]) (by simp [*]; rfl) ?_) | refine OutOK.run (by simp [*]; rfl) ?_ | refine AW.ret ?_ | refine AW.skip ?_ | refine AW.exit ?_ | refine fin_r ?_ | refine fin_n ?_ | refine AW.block ?_ | refine blockQ_n ?_ | refine blockQ_r ?_ | refine blockQ_e ?_ | refine blockQ_o rfl ?_)
    refine AW.loopS (α := Nat) (fun q => q ≤ l.length) (fun q => [(0, .c (.sl true 5 (edts true l))), (6, .rf 19000 []), (7, .rf 20000 []), (21, .c (.sl true 5 (edts true l))), (22, .c (.sc (.int .i64 (l.length : Int)))), (23, .c (.sc (.int .i64 (q : Int))))]) (fun q => [(19000, .sv (.sl false 1 (bls (dnL l (ordL l q))))), (20000, .sv (.sl false 1 (ints (ordL l q))))]) (fun q => l.length - q) 0 (Nat.zero_le _) [] (by simp) ⟨by simp, by simp [ordL, hdz.out], by simp⟩ ?_
    intro q hq
    have hol : (ordL l q).length = q := ordL_len l q
    rcases Nat.lt_or_ge q l.length with hql | hql
    · obtain ⟨n1, n2, n3⟩ := hnx.out q hql
      have hos : Hd (ordL l (q + 1) = ordL l q ++ [(nxtI l (ordL l q) : Int)]) := rfl
      have hnf : Hd (∀ i, i < l.length → fre l (ordL l q) i = true → (∀ j < i, fre l (ordL l q) j = false) → nxtI l (ordL l q) = i) := fun i h1 h2 h3 => nxt_first h1 h2 h3
      have n1' : Hd _ := n1
      have n2' : Hd _ := n2
      have n3' : Hd _ := n3
      clear n1 n2 n3
      generalize nxtI l (ordL l q) = nx at *
      generalize hso : ordL l (q + 1) = so at *
      have hso' : Hd _ := hso
      clear hso
      generalize ordL l q = o at *
      have e1 : wrap64 ((q : Int) + 1) = ((q + 1 : Nat) : Int) := by rw [w64 (by omega) (by omega)]; omega
      repeat' (first | with_reducible refine OutOK.done ?_ | refine thenQ_n ?_ | refine thenQ_r ?_ | refine thenQ_e ?_ | refine AW.seq ?_ | refine AW.reg tok (by simp [*]; rfl) ?_ | refine AW.ifB (by simp [*]; rfl) ?_ | refine IfG.t ?_ | refine IfG.f ?_ | (refine IfG.p (fun hg => ?_) (fun hg => ?_) <;> (try (have hg' := hg; simp at hg'))) | (refine IfG.n (fun hg => ?_) (fun hg => ?_) <;> (try (have hg' := hg; simp at hg'))) | (refine OutOK.gateP (fun hg => ?_) (fun hg => ?_) <;> (try (have hg' := hg; simp at hg'))) | (refine OutOK.gateN (fun hg => ?_) (fun hg => ?_) <;> (try (have hg' := hg; simp at hg'))) | (refine IfG.g (fun hg => ?_) (fun hg => ?_) <;> (try (have hg' := hg; simp at hg'))) | (refine OutOK.gate (fun hg => ?_) (fun hg => ?_) <;> (try (have hg' := hg; simp at hg'))) | refine OutOK.run (by simp [*]; rfl) ?_ | refine AW.ret ?_ | refine AW.skip ?_ | refine AW.exit ?_ | refine fin_r ?_ | refine fin_n ?_ | refine AW.block ?_ | refine blockQ_n ?_ | refine blockQ_r ?_ | refine blockQ_e ?_ | refine blockQ_o rfl ?_)
      refine AW.loopL (α := Nat) (fun i => i ≤ l.length ∧ Hd (∀ j < i, fre l o j = false)) (fun i => [(0, .c (.sl true 5 (edts true l))), (6, .rf 19000 []), (7, .rf 20000 []), (21, .c (.sl true 5 (edts true l))), (22, .c (.sc (.int .i64 (l.length : Int)))), (23, .c (.sc (.int .i64 (q : Int)))), (25, .c (.sl true 5 (edts true l))), (26, .c (.sc (.int .i64 (l.length : Int)))), (27, .c (.sc (.int .i64 (i : Int))))]) (fun _ => [(19000, .sv (.sl false 1 (bls (dnL l o)))), (20000, .sv (.sl false 1 (ints o)))]) (fun i => l.length - i) 0 ⟨Nat.zero_le _, fun j hj => by omega⟩ ⟨by simp, by simp, by simp⟩ ?_
      rintro i ⟨hi, hs⟩
      have hil : i < l.length := by
        rcases Nat.lt_or_ge i l.length with hil | hil
        · exact hil
        · have := hs.out nx (by have := n1'.out; omega); rw [n2'.out] at this; cases this
      refine (w_coI l o q i hil hl (by omega) hck'.out).mono fun e st hq2 => ?_
      rcases hq2 with ⟨rfl, hf, hq2⟩ | ⟨rfl, hf, hq2⟩
      · have hnx2 := hnf.out i hil hf hs.out
        refine AW.forget _ _ hq2 ?_
        have hres : Hd (so = o ++ [(i : Int)]) := by rw [Hd, hos.out, hnx2]
        clear hf hq2 hnf hs n1' n2' n3' hnx2
        repeat' (first | with_reducible refine OutOK.done ?_ | refine thenQ_n ?_ | refine thenQ_r ?_ | refine thenQ_e ?_ | refine AW.seq ?_ | refine AW.reg tok (by simp [*]; rfl) ?_ | refine AW.ifB (by simp [*]; rfl) ?_ | refine IfG.t ?_ | refine IfG.f ?_ | (refine IfG.p (fun hg => ?_) (fun hg => ?_) <;> (try (have hg' := hg; simp at hg'))) | (refine IfG.n (fun hg => ?_) (fun hg => ?_) <;> (try (have hg' := hg; simp at hg'))) | (refine OutOK.gateP (fun hg => ?_) (fun hg => ?_) <;> (try (have hg' := hg; simp at hg'))) | (refine OutOK.gateN (fun hg => ?_) (fun hg => ?_) <;> (try (have hg' := hg; simp at hg'))) | (refine IfG.g (fun hg => ?_) (fun hg => ?_) <;> (try (have hg' := hg; simp at hg'))) | (refine OutOK.gate (fun hg => ?_) (fun hg => ?_) <;> (try (have hg' := hg; simp at hg'))) | refine OutOK.run (by simp [*]; rfl) ?_ | refine AW.ret ?_ | refine AW.skip ?_ | refine AW.exit ?_ | refine fin_r ?_ | refine fin_n ?_ | refine AW.block ?_ | refine blockQ_n ?_ | refine blockQ_r ?_ | refine blockQ_e ?_ | refine blockQ_o rfl ?_)
        exact ⟨q + 1, hql, ⟨[(65000, 20000)], by simp, by simp, by simp [hso'.out, hres.out], by simp⟩, by ((try (clear e0)); (try (clear e1)); (try (clear e2)); (try (clear e3)); (try (clear e4)); (try (clear e5)); (try (clear e6)); (try (clear e7)); (try (clear e8)); (try (clear e9)); (try (clear e10)); (try (clear e11)); omega)⟩
      · refine ⟨i + 1, ⟨hil, fun j hj => ?_⟩, hq2, by omega⟩
        rcases Nat.lt_succ_iff_lt_or_eq.1 hj with h1 | rfl
        · exact hs.out j h1
        · exact hf
    · have hqq : q = l.length := by omega
      subst hqq
      have hr := hor.out
      subst hr
      clear hnx hor
      repeat' (first | with_reducible refine OutOK.done ?_ | refine thenQ_n ?_ | refine thenQ_r ?_ | refine thenQ_e ?_ | refine AW.seq ?_ | refine AW.reg tok (by simp [*]; rfl) ?_ | refine AW.ifB (by simp [*]; rfl) ?_ | refine IfG.t ?_ | refine IfG.f ?_ | (refine IfG.p (fun hg => ?_) (fun hg => ?_) <;> (try (have hg' := hg; simp at hg'))) | (refine IfG.n (fun hg => ?_) (fun hg => ?_) <;> (try (have hg' := hg; simp at hg'))) | (refine OutOK.gateP (fun hg => ?_) (fun hg => ?_) <;> (try (have hg' := hg; simp at hg'))) | (refine OutOK.gateN (fun hg => ?_) (fun hg => ?_) <;> (try (have hg' := hg; simp at hg'))) | (refine IfG.g (fun hg => ?_) (fun hg => ?_) <;> (try (have hg' := hg; simp at hg'))) | (refine OutOK.gate (fun hg => ?_) (fun hg => ?_) <;> (try (have hg' := hg; simp at hg'))) | refine OutOK.run (by simp [*]; rfl) ?_ | refine AW.ret ?_ | refine AW.skip ?_ | refine AW.exit ?_ | refine fin_r ?_ | refine fin_n ?_ | refine AW.block ?_ | refine blockQ_n ?_ | refine blockQ_r ?_ | refine blockQ_e ?_ | refine blockQ_o rfl ?_)
      simp [Try.f37]
end Go.Proofs.Ytbofobjofngoeaa.EngS


set_option linter.unusedSimpArgs false
set_option linter.unusedVariables false
set_option maxHeartbeats 4000000
set_option maxRecDepth 100000
namespace Go.Proofs.Ytbofobjofngoeaa.EngS
open Go Go.Proofs Go.Eng Go.RowKit
attribute [local irreducible] Go.RowKit.wrap64
def CsKQ (l : List Edt) (o : List Int) (i k : Nat) (hi : i < l.length) (e : Exit) (st : St) : Prop := e = .normal ∧ LessL st [(0, .c (.sl true 5 (edts true l))), (6, .rf 11000 []), (7, .c (.sc (.int .i64 (-1 : Int)))), (8, .c (.sc (.int .i64 (i : Int)))), (9, .c (.sc (.bool (frB l o i (k + 1))))), (10, .c (.sc (.int .i64 ((k + 1 : Nat) : Int))))] [(11000, .sv (.sl false 1 (ints o)))]
theorem w_csKa (l : List Edt) (o : List Int) (i k : Nat) (hi : i < l.length) (hk : k < l.length) (hl : l.length ≤ 24) (ho : o.length ≤ 24) (hci : l[i].ck.length ≤ 3) (h1 : precE l[k] l[i] = false) : AW Try.prog 67 (cAt Try.f36 [2, 2, 2, 1, 5, 7, 2, 5, 2, 1, 2, 5, 7, 2, 1, 5, 2, 1, 2, 5, 7]) (mk [(0, .c (.sl true 5 (edts true l))), (6, .rf 11000 []), (7, .c (.sc (.int .i64 (-1 : Int)))), (8, .c (.sc (.int .i64 (i : Int)))), (9, .c (.sc (.bool (frB l o i k)))), (10, .c (.sc (.int .i64 (k : Int))))] [(11000, .sv (.sl false 1 (ints o)))]) (CsKQ l o i k hi) := by
  have e1 : wrap64 ((k : Int) + 1) = ((k + 1 : Nat) : Int) := by rw [w64 (by omega) (by omega)]; omega
  have hst : Hd (frB l o i (k + 1) = (frB l o i k && (hasI o k || !(precE l[k] l[i])))) := frB_step l o i k hi hk
  have cp := c_spec_l22Precedes l[k] l[i] (by omega)
  have ch := c_spec_l1Has o (k : Int) (by omega)
  rw [show (o.any fun x => decide (x = (k : Int))) = hasI o k from rfl] at ch
  generalize frB l o i k = fb at *
  generalize precE l[k] l[i] = pe at *
  generalize hasI o k = hk2 at *
  subst h1
  repeat' (first | with_reducible refine OutOK.done ?_ | refine thenQ_n ?_ | refine thenQ_r ?_ | refine thenQ_e ?_ | refine AW.seq ?_ | refine AW.dreg tok mixed [7]  [(0, false), (1, false), (2, false), (4, false), (5, false), (6, false), (3, false), (7, true), (8, false), (9, false), (10, false), (11, false), (12, false), (13, false), (14, false)] (by decide +kernel) rfl (by simp [*]; rfl) ?_ | refine AW.reg tok (by simp [*]; rfl) ?_ | refine AW.ifB (by simp [*]; rfl) ?_ | refine IfG.t ?_ | refine IfG.f ?_ | (refine IfG.p (fun hg => ?_) (fun hg => ?_) <;> (try (have hg' := hg; simp at hg'))) | (refine IfG.n (fun hg => ?_) (fun hg => ?_) <;> (try (have hg' := hg; simp at hg'))) | (refine OutOK.gateP (fun hg => ?_) (fun hg => ?_) <;> (try (have hg' := hg; simp at hg'))) | (refine OutOK.gateN (fun hg => ?_) (fun hg => ?_) <;> (try (have hg' := hg; simp at hg'))) | (refine IfG.g (fun hg => ?_) (fun hg => ?_) <;> (try (have hg' := hg; simp at hg'))) | (refine OutOK.gate (fun hg => ?_) (fun hg => ?_) <;> (try (have hg' := hg; simp at hg'))) | (refine OutOK.callF [] (by simp [*]; rfl) (by simp [*]; rfl) (by simp [*]; rfl) hb87 (by apply cp <;> first | assumption | exact Hd.out (by assumption) | ((try (clear e0)); (try (clear e1)); (try (clear e2)); (try (clear e3)); (try (clear e4)); (try (clear e5)); (try (clear e6)); (try (clear e7)); (try (clear e8)); (try (clear e9)); (try (clear e10)); (try (clear e11)); omega)) ⟨by simp [*], by simp [*], by simp [*], by simp [*], by simp [*]⟩ (by simp [*]) (by simp [*]; rfl) ?_) | (refine OutOK.callF [] (by simp [*]; rfl) (by simp [*]; rfl) (by simp [*]; rfl) hb86 (by apply ch <;> first | assumption | exact Hd.out (by assumption) | ((try (clear e0)); (try (clear e1)); (try (clear e2)); (try (clear e3)); (try (clear e4)); (try (clear e5)); (try (clear e6)); (try (clear e7)); (try (clear e8)); (try (clear e9)); (try (clear e10)); (try (clear e11)); omega)) ⟨by simp [*], by simp [*], by simp [*], by simp [*], by simp [*]⟩ (by simp [*]) (by simp [*]; rfl) ?_) | refine OutOK.run (by simp [*]; rfl) ?_ | refine AW.ret ?_ | refine AW.skip ?_ | refine AW.exit ?_ | refine fin_r ?_ | refine fin_n ?_ | refine AW.block ?_ | refine blockQ_n ?_ | refine blockQ_r ?_ | refine blockQ_e ?_ | refine blockQ_o rfl ?_)
  all_goals exact ⟨rfl, by simp [hst.out], by simp, by simp⟩
theorem w_csKb (l : List Edt) (o : List Int) (i k : Nat) (hi : i < l.length) (hk : k < l.length) (hl : l.length ≤ 24) (ho : o.length ≤ 24) (hci : l[i].ck.length ≤ 3) (h1 : precE l[k] l[i] = true) (h2 : hasI o k = true) : AW Try.prog 67 (cAt Try.f36 [2, 2, 2, 1, 5, 7, 2, 5, 2, 1, 2, 5, 7, 2, 1, 5, 2, 1, 2, 5, 7]) (mk [(0, .c (.sl true 5 (edts true l))), (6, .rf 11000 []), (7, .c (.sc (.int .i64 (-1 : Int)))), (8, .c (.sc (.int .i64 (i : Int)))), (9, .c (.sc (.bool (frB l o i k)))), (10, .c (.sc (.int .i64 (k : Int))))] [(11000, .sv (.sl false 1 (ints o)))]) (CsKQ l o i k hi) := by
  have e1 : wrap64 ((k : Int) + 1) = ((k + 1 : Nat) : Int) := by rw [w64 (by omega) (by omega)]; omega
  have hst : Hd (frB l o i (k + 1) = (frB l o i k && (hasI o k || !(precE l[k] l[i])))) := frB_step l o i k hi hk
  have cp := c_spec_l22Precedes l[k] l[i] (by omega)
  have ch := c_spec_l1Has o (k : Int) (by omega)
  rw [show (o.any fun x => decide (x = (k : Int))) = hasI o k from rfl] at ch
  generalize frB l o i k = fb at *
  generalize precE l[k] l[i] = pe at *
  generalize hasI o k = hk2 at *
  subst h1
  subst h2
  repeat' (first | with_reducible refine OutOK.done ?_ | refine thenQ_n ?_ | refine thenQ_r ?_ | refine thenQ_e ?_ | refine AW.seq ?_ | refine AW.dreg tok mixed [7]  [(0, false), (1, false), (2, false), (4, false), (5, false), (6, false), (3, false), (7, true), (8, false), (9, false), (10, false), (11, false), (12, false), (13, false), (14, false)] (by decide +kernel) rfl (by simp [*]; rfl) ?_ | refine AW.reg tok (by simp [*]; rfl) ?_ | refine AW.ifB (by simp [*]; rfl) ?_ | refine IfG.t ?_ | refine IfG.f ?_ | (refine IfG.p (fun hg => ?_) (fun hg => ?_) <;> (try (have hg' := hg; simp at hg'))) | (refine IfG.n (fun hg => ?_) (fun hg => ?_) <;> (try (have hg' := hg; simp at hg'))) | (refine OutOK.gateP (fun hg => ?_) (fun hg => ?_) <;> (try (have hg' := hg; simp at hg'))) | (refine OutOK.gateN (fun hg => ?_) (fun hg => ?_) <;> (try (have hg' := hg; simp at hg'))) | (refine IfG.g (fun hg => ?_) (fun hg => ?_) <;> (try (have hg' := hg; simp at hg'))) | (refine OutOK.gate (fun hg => ?_) (fun hg => ?_) <;> (try (have hg' := hg; simp at hg'))) | (refine OutOK.callF [] (by simp [*]; rfl) (by simp [*]; rfl) (by simp [*]; rfl) hb87 (by apply cp <;> first | assumption | exact Hd.out (by assumption) | ((try (clear e0)); (try (clear e1)); (try (clear e2)); (try (clear e3)); (try (clear e4)); (try (clear e5)); (try (clear e6)); (try (clear e7)); (try (clear e8)); (try (clear e9)); (try (clear e10)); (try (clear e11)); omega)) ⟨by simp [*], by simp [*], by simp [*], by simp [*], by simp [*]⟩ (by simp [*]) (by simp [*]; rfl) ?_) | (refine OutOK.callF [] (by simp [*]; rfl) (by simp [*]; rfl) (by simp [*]; rfl) hb86 (by apply ch <;> first | assumption | exact Hd.out (by assumption) | ((try (clear e0)); (try (clear e1)); (try (clear e2)); (try (clear e3)); (try (clear e4)); (try (clear e5)); (try (clear e6)); (try (clear e7)); (try (clear e8)); (try (clear e9)); (try (clear e10)); (try (clear e11)); omega)) ⟨by simp [*], by simp [*], by simp [*], by simp [*], by simp [*]⟩ (by simp [*]) (by simp [*]; rfl) ?_) | refine OutOK.run (by simp [*]; rfl) ?_ | refine AW.ret ?_ | refine AW.skip ?_ | refine AW.exit ?_ | refine fin_r ?_ | refine fin_n ?_ | refine AW.block ?_ | refine blockQ_n ?_ | refine blockQ_r ?_ | refine blockQ_e ?_ | refine blockQ_o rfl ?_)
  all_goals exact ⟨rfl, by simp [hst.out], by simp, by simp⟩
theorem w_csKc (l : List Edt) (o : List Int) (i k : Nat) (hi : i < l.length) (hk : k < l.length) (hl : l.length ≤ 24) (ho : o.length ≤ 24) (hci : l[i].ck.length ≤ 3) (h1 : precE l[k] l[i] = true) (h2 : hasI o k = false) : AW Try.prog 67 (cAt Try.f36 [2, 2, 2, 1, 5, 7, 2, 5, 2, 1, 2, 5, 7, 2, 1, 5, 2, 1, 2, 5, 7]) (mk [(0, .c (.sl true 5 (edts true l))), (6, .rf 11000 []), (7, .c (.sc (.int .i64 (-1 : Int)))), (8, .c (.sc (.int .i64 (i : Int)))), (9, .c (.sc (.bool (frB l o i k)))), (10, .c (.sc (.int .i64 (k : Int))))] [(11000, .sv (.sl false 1 (ints o)))]) (CsKQ l o i k hi) := by
  have e1 : wrap64 ((k : Int) + 1) = ((k + 1 : Nat) : Int) := by rw [w64 (by omega) (by omega)]; omega
  have hst : Hd (frB l o i (k + 1) = (frB l o i k && (hasI o k || !(precE l[k] l[i])))) := frB_step l o i k hi hk
  have cp := c_spec_l22Precedes l[k] l[i] (by omega)
  have ch := c_spec_l1Has o (k : Int) (by omega)
  rw [show (o.any fun x => decide (x = (k : Int))) = hasI o k from rfl] at ch
  generalize frB l o i k = fb at *
  generalize precE l[k] l[i] = pe at *
  generalize hasI o k = hk2 at *
  subst h1
  subst h2
  repeat' (first | with_reducible refine OutOK.done ?_ | refine thenQ_n ?_ | refine thenQ_r ?_ | refine thenQ_e ?_ | refine AW.seq ?_ | refine AW.dreg tok mixed [7]  [(0, false), (1, false), (2, false), (4, false), (5, false), (6, false), (3, false), (7, true), (8, false), (9, false), (10, false), (11, false), (12, false), (13, false), (14, false)] (by decide +kernel) rfl (by simp [*]; rfl) ?_ | refine AW.reg tok (by simp [*]; rfl) ?_ | refine AW.ifB (by simp [*]; rfl) ?_ | refine IfG.t ?_ | refine IfG.f ?_ | (refine IfG.p (fun hg => ?_) (fun hg => ?_) <;> (try (have hg' := hg; simp at hg'))) | (refine IfG.n (fun hg => ?_) (fun hg => ?_) <;> (try (have hg' := hg; simp at hg'))) | (refine OutOK.gateP (fun hg => ?_) (fun hg => ?_) <;> (try (have hg' := hg; simp at hg'))) | (refine OutOK.gateN (fun hg => ?_) (fun hg => ?_) <;> (try (have hg' := hg; simp at hg'))) | (refine IfG.g (fun hg => ?_) (fun hg => ?_) <;> (try (have hg' := hg; simp at hg'))) | (refine OutOK.gate (fun hg => ?_) (fun hg => ?_) <;> (try (have hg' := hg; simp at hg'))) | (refine OutOK.callF [] (by simp [*]; rfl) (by simp [*]; rfl) (by simp [*]; rfl) hb87 (by apply cp <;> first | assumption | exact Hd.out (by assumption) | ((try (clear e0)); (try (clear e1)); (try (clear e2)); (try (clear e3)); (try (clear e4)); (try (clear e5)); (try (clear e6)); (try (clear e7)); (try (clear e8)); (try (clear e9)); (try (clear e10)); (try (clear e11)); omega)) ⟨by simp [*], by simp [*], by simp [*], by simp [*], by simp [*]⟩ (by simp [*]) (by simp [*]; rfl) ?_) | (refine OutOK.callF [] (by simp [*]; rfl) (by simp [*]; rfl) (by simp [*]; rfl) hb86 (by apply ch <;> first | assumption | exact Hd.out (by assumption) | ((try (clear e0)); (try (clear e1)); (try (clear e2)); (try (clear e3)); (try (clear e4)); (try (clear e5)); (try (clear e6)); (try (clear e7)); (try (clear e8)); (try (clear e9)); (try (clear e10)); (try (clear e11)); omega)) ⟨by simp [*], by simp [*], by simp [*], by simp [*], by simp [*]⟩ (by simp [*]) (by simp [*]; rfl) ?_) | refine OutOK.run (by simp [*]; rfl) ?_ | refine AW.ret ?_ | refine AW.skip ?_ | refine AW.exit ?_ | refine fin_r ?_ | refine fin_n ?_ | refine AW.block ?_ | refine blockQ_n ?_ | refine blockQ_r ?_ | refine blockQ_e ?_ | refine blockQ_o rfl ?_)
  all_goals exact ⟨rfl, by simp [hst.out], by simp, by simp⟩
theorem w_csK (l : List Edt) (o : List Int) (i k : Nat) (hi : i < l.length) (hk : k < l.length) (hl : l.length ≤ 24) (ho : o.length ≤ 24) (hci : l[i].ck.length ≤ 3) : AW Try.prog 67 (cAt Try.f36 [2, 2, 2, 1, 5, 7, 2, 5, 2, 1, 2, 5, 7, 2, 1, 5, 2, 1, 2, 5, 7]) (mk [(0, .c (.sl true 5 (edts true l))), (6, .rf 11000 []), (7, .c (.sc (.int .i64 (-1 : Int)))), (8, .c (.sc (.int .i64 (i : Int)))), (9, .c (.sc (.bool (frB l o i k)))), (10, .c (.sc (.int .i64 (k : Int))))] [(11000, .sv (.sl false 1 (ints o)))]) (CsKQ l o i k hi) := by
  by_cases h1 : precE l[k] l[i] = true
  · by_cases h2 : hasI o k = true
    · exact w_csKb l o i k hi hk hl ho hci h1 h2
    · exact w_csKc l o i k hi hk hl ho hci h1 (by simpa using h2)
  · exact w_csKa l o i k hi hk hl ho hci (by simpa using h1)
def CsIQ (l : List Edt) (o : List Int) (i : Nat) (e : Exit) (st : St) : Prop :=
  e = .normal ∧ ((fre l o i = true ∧ LessL st [(0, .c (.sl true 5 (edts true l))), (6, .rf 11000 []), (7, .c (.sc (.int .i64 (i : Int)))), (8, .c (.sc (.int .i64 ((i + 1 : Nat) : Int))))] [(11000, .sv (.sl false 1 (ints o)))]) ∨ (fre l o i = false ∧ LessL st [(0, .c (.sl true 5 (edts true l))), (6, .rf 11000 []), (7, .c (.sc (.int .i64 (-1 : Int)))), (8, .c (.sc (.int .i64 ((i + 1 : Nat) : Int))))] [(11000, .sv (.sl false 1 (ints o)))]))
theorem w_csI (l : List Edt) (o : List Int) (i : Nat) (hi : i < l.length) (hl : l.length ≤ 24) (ho : o.length ≤ 24) (hck : ∀ e ∈ l, e.ck.length ≤ 3) : AW Try.prog 67 (cAt Try.f36 [2, 2, 2, 1, 5, 7, 2, 5, 2, 1, 2, 5, 7]) (mk [(0, .c (.sl true 5 (edts true l))), (6, .rf 11000 []), (7, .c (.sc (.int .i64 (-1 : Int)))), (8, .c (.sc (.int .i64 (i : Int))))] [(11000, .sv (.sl false 1 (ints o)))]) (CsIQ l o i) := by
  have e1 : wrap64 ((i : Int) + 1) = ((i + 1 : Nat) : Int) := by rw [w64 (by omega) (by omega)]; omega
  have hci := hck _ (List.getElem_mem hi)
  have hz : Hd (frB l o i 0 = !(hasI o i)) := frB_zero l o i
  have ch := c_spec_l1Has o (i : Int) (by omega)
  rw [show (o.any fun x => decide (x = (i : Int))) = hasI o i from rfl] at ch
  generalize hasI o i = hb at *
  repeat' (first | with_reducible refine OutOK.done ?_ | refine thenQ_n ?_ | refine thenQ_r ?_ | refine thenQ_e ?_ | refine AW.seq ?_ | refine AW.dreg tok mixed [7]  [(0, false), (1, false), (2, false), (4, false), (5, false), (6, false), (3, false), (7, true), (8, false), (9, false), (10, false), (11, false), (12, false), (13, false), (14, false)] (by decide +kernel) rfl (by simp [*]; rfl) ?_ | refine AW.reg tok (by simp [*]; rfl) ?_ | refine AW.ifB (by simp [*]; rfl) ?_ | refine IfG.t ?_ | refine IfG.f ?_ | (refine IfG.p (fun hg => ?_) (fun hg => ?_) <;> (try (have hg' := hg; simp at hg'))) | (refine IfG.n (fun hg => ?_) (fun hg => ?_) <;> (try (have hg' := hg; simp at hg'))) | (refine OutOK.gateP (fun hg => ?_) (fun hg => ?_) <;> (try (have hg' := hg; simp at hg'))) | (refine OutOK.gateN (fun hg => ?_) (fun hg => ?_) <;> (try (have hg' := hg; simp at hg'))) | (refine IfG.g (fun hg => ?_) (fun hg => ?_) <;> (try (have hg' := hg; simp at hg'))) | (refine OutOK.gate (fun hg => ?_) (fun hg => ?_) <;> (try (have hg' := hg; simp at hg'))) | (refine OutOK.callF [] (by simp [*]; rfl) (by simp [*]; rfl) (by simp [*]; rfl) hb86 (by apply ch <;> first | assumption | exact Hd.out (by assumption) | ((try (clear e0)); (try (clear e1)); (try (clear e2)); (try (clear e3)); (try (clear e4)); (try (clear e5)); (try (clear e6)); (try (clear e7)); (try (clear e8)); (try (clear e9)); (try (clear e10)); (try (clear e11)); omega)) ⟨by simp [*], by simp [*], by simp [*], by simp [*], by simp [*]⟩ (by simp [*]) (by simp [*]; rfl) ?_) | refine OutOK.run (by simp [*]; rfl) ?_ | refine AW.ret ?_ | refine AW.skip ?_ | refine AW.exit ?_ | refine fin_r ?_ | refine fin_n ?_ | refine AW.block ?_ | refine blockQ_n ?_ | refine blockQ_r ?_ | refine blockQ_e ?_ | refine blockQ_o rfl ?_)
  refine AW.loopL (α := Nat) (fun k => k ≤ l.length) (fun k => [(0, .c (.sl true 5 (edts true l))), (6, .rf 11000 []), (7, .c (.sc (.int .i64 (-1 : Int)))), (8, .c (.sc (.int .i64 (i : Int)))), (9, .c (.sc (.bool (frB l o i k)))), (10, .c (.sc (.int .i64 (k : Int))))]) (fun _ => [(11000, .sv (.sl false 1 (ints o)))]) (fun k => l.length - k) 0 (Nat.zero_le _) ⟨by simp [hz.out], by simp, by simp⟩ ?_
  intro k hk
  rcases Nat.lt_or_ge k l.length with hkl | hkl
  · refine (w_csK l o i k hi hkl hl ho hci).mono fun e st hq => ?_
    obtain ⟨rfl, hq⟩ := hq
    exact ⟨k + 1, hkl, hq, by omega⟩
  · have hkk : k = l.length := by omega
    subst hkk
    rw [show frB l o i l.length = fre l o i from rfl]
    cases hf : fre l o i with
    | true =>
      have hf' : Hd _ := hf
      clear hf
      repeat' (first | with_reducible refine OutOK.done ?_ | refine thenQ_n ?_ | refine thenQ_r ?_ | refine thenQ_e ?_ | refine AW.seq ?_ | refine AW.dreg tok mixed [7]  [(0, false), (1, false), (2, false), (4, false), (5, false), (6, false), (3, false), (7, true), (8, false), (9, false), (10, false), (11, false), (12, false), (13, false), (14, false)] (by decide +kernel) rfl (by simp [*]; rfl) ?_ | refine AW.reg tok (by simp [*]; rfl) ?_ | refine AW.ifB (by simp [*]; rfl) ?_ | refine IfG.t ?_ | refine IfG.f ?_ | (refine IfG.p (fun hg => ?_) (fun hg => ?_) <;> (try (have hg' := hg; simp at hg'))) | (refine IfG.n (fun hg => ?_) (fun hg => ?_) <;> (try (have hg' := hg; simp at hg'))) | (refine OutOK.gateP (fun hg => ?_) (fun hg => ?_) <;> (try (have hg' := hg; simp at hg'))) | (refine OutOK.gateN (fun hg => ?_) (fun hg => ?_) <;> (try (have hg' := hg; simp at hg'))) | (refine IfG.g (fun hg => ?_) (fun hg => ?_) <;> (try (have hg' := hg; simp at hg'))) | (refine OutOK.gate (fun hg => ?_) (fun hg => ?_) <;> (try (have hg' := hg; simp at hg'))) | refine OutOK.run (by simp [*]; rfl) ?_ | refine AW.ret ?_ | refine AW.skip ?_ | refine AW.exit ?_ | refine fin_r ?_ | refine fin_n ?_ | refine AW.block ?_ | refine blockQ_n ?_ | refine blockQ_r ?_ | refine blockQ_e ?_ | refine blockQ_o rfl ?_)
      exact ⟨rfl, .inl ⟨hf'.out, by simp, by simp, by simp⟩⟩
    | false =>
      have hf' : Hd _ := hf
      clear hf
      repeat' (first | with_reducible refine OutOK.done ?_ | refine thenQ_n ?_ | refine thenQ_r ?_ | refine thenQ_e ?_ | refine AW.seq ?_ | refine AW.dreg tok mixed [7]  [(0, false), (1, false), (2, false), (4, false), (5, false), (6, false), (3, false), (7, true), (8, false), (9, false), (10, false), (11, false), (12, false), (13, false), (14, false)] (by decide +kernel) rfl (by simp [*]; rfl) ?_ | refine AW.reg tok (by simp [*]; rfl) ?_ | refine AW.ifB (by simp [*]; rfl) ?_ | refine IfG.t ?_ | refine IfG.f ?_ | (refine IfG.p (fun hg => ?_) (fun hg => ?_) <;> (try (have hg' := hg; simp at hg'))) | (refine IfG.n (fun hg => ?_) (fun hg => ?_) <;> (try (have hg' := hg; simp at hg'))) | (refine OutOK.gateP (fun hg => ?_) (fun hg => ?_) <;> (try (have hg' := hg; simp at hg'))) | (refine OutOK.gateN (fun hg => ?_) (fun hg => ?_) <;> (try (have hg' := hg; simp at hg'))) | (refine IfG.g (fun hg => ?_) (fun hg => ?_) <;> (try (have hg' := hg; simp at hg'))) | (refine OutOK.gate (fun hg => ?_) (fun hg => ?_) <;> (try (have hg' := hg; simp at hg'))) | refine OutOK.run (by simp [*]; rfl) ?_ | refine AW.ret ?_ | refine AW.skip ?_ | refine AW.exit ?_ | refine fin_r ?_ | refine fin_n ?_ | refine AW.block ?_ | refine blockQ_n ?_ | refine blockQ_r ?_ | refine blockQ_e ?_ | refine blockQ_o rfl ?_)
      exact ⟨rfl, .inr ⟨hf'.out, by simp, by simp, by simp⟩⟩
theorem c_spec_CausalOrder (l : List Edt) (n : Int) (h : l.length ≤ 1048576) (hb : ∀ e ∈ l, EdtB e) : ACall Try.prog 36 [.v (.sl true 5 (edts true l)), int n] [.x, .x] [.v (.sl false 1 (ints (ordR l n))), boo (hist l n)] := by
  have cg := c_spec_l22Good l n (by omega) (fun e he => (hb e he).w)
  cases hh : hist l n with
  | false =>
    rw [hh] at cg
    have : ordR l n = [] := by simp [ordR, hh]
    rw [this]
    clear this hb hh
    refine ACall.of (N := 67) tok Try.func36 rfl rfl rfl (by simp) ?_
    repeat' (first | with_reducible refine OutOK.done ?_ | refine thenQ_n ?_ | refine thenQ_r ?_ | refine thenQ_e ?_ | refine AW.seq ?_ | refine AW.dreg tok mixed [7]  [(0, false), (1, false), (2, false), (4, false), (5, false), (6, false), (3, false), (7, true), (8, false), (9, false), (10, false), (11, false), (12, false), (13, false), (14, false)] (by decide +kernel) rfl (by simp [*]; rfl) ?_ | refine AW.reg tok (by simp [*]; rfl) ?_ | refine AW.ifB (by simp [*]; rfl) ?_ | refine IfG.t ?_ | refine IfG.f ?_ | (refine IfG.p (fun hg => ?_) (fun hg => ?_) <;> (try (have hg' := hg; simp at hg'))) | (refine IfG.n (fun hg => ?_) (fun hg => ?_) <;> (try (have hg' := hg; simp at hg'))) | (refine OutOK.gateP (fun hg => ?_) (fun hg => ?_) <;> (try (have hg' := hg; simp at hg'))) | (refine OutOK.gateN (fun hg => ?_) (fun hg => ?_) <;> (try (have hg' := hg; simp at hg'))) | (refine IfG.g (fun hg => ?_) (fun hg => ?_) <;> (try (have hg' := hg; simp at hg'))) | (refine OutOK.gate (fun hg => ?_) (fun hg => ?_) <;> (try (have hg' := hg; simp at hg'))) | (refine OutOK.callF [] (by simp [*]; rfl) (by simp [*]; rfl) (by simp [*]; rfl) hb74 (by apply cg <;> first | assumption | exact Hd.out (by assumption) | ((try (clear e0)); (try (clear e1)); (try (clear e2)); (try (clear e3)); (try (clear e4)); (try (clear e5)); (try (clear e6)); (try (clear e7)); (try (clear e8)); (try (clear e9)); (try (clear e10)); (try (clear e11)); omega)) ⟨by simp [*], by simp [*], by simp [*], by simp [*], by simp [*]⟩ (by simp [*]) (by simp [*]; rfl) ?_) | refine OutOK.run (by simp [*]; rfl) ?_ | refine AW.ret ?_ | refine AW.skip ?_ | refine AW.exit ?_ | refine fin_r ?_ | refine fin_n ?_ | refine AW.block ?_ | refine blockQ_n ?_ | refine blockQ_r ?_ | refine blockQ_e ?_ | refine blockQ_o rfl ?_)
    simp [Try.f36]
  | true =>
    rw [hh] at cg
    have hor : Hd (ordR l n = ordL l l.length) := by simp [Hd, ordR, hh]
    have hck' : Hd _ := hist_ck2 hh
    have hl := hist_len hh
    have hnx : Hd (∀ q, q < l.length → _) := fun q hq => nxt_ok (hist_iff'.1 hh) q hq
    generalize ordR l n = R at *
    clear hb hh
    refine ACall.of (N := 67) tok Try.func36 rfl rfl rfl (by simp) ?_
    repeat' (first | with_reducible refine OutOK.done ?_ | refine thenQ_n ?_ | refine thenQ_r ?_ | refine thenQ_e ?_ | refine AW.seq ?_ | refine AW.dreg tok mixed [7]  [(0, false), (1, false), (2, false), (4, false), (5, false), (6, false), (3, false), (7, true), (8, false), (9, false), (10, false), (11, false), (12, false), (13, false), (14, false)] (by decide +kernel) rfl (by simp [*]; rfl) ?_ | refine AW.reg tok (by simp [*]; rfl) ?_ | refine AW.ifB (by simp [*]; rfl) ?_ | refine IfG.t ?_ | refine IfG.f ?_ | (refine IfG.p (fun hg => ?_) (fun hg => ?_) <;> (try (have hg' := hg; simp at hg'))) | (refine IfG.n (fun hg => ?_) (fun hg => ?_) <;> (try (have hg' := hg; simp at hg'))) | (refine OutOK.gateP (fun hg => ?_) (fun hg => ?_) <;> (try (have hg' := hg; simp at hg'))) | (refine OutOK.gateN (fun hg => ?_) (fun hg => ?_) <;> (try (have hg' := hg; simp at hg'))) | (refine IfG.g (fun hg => ?_) (fun hg => ?_) <;> (try (have hg' := hg; simp at hg'))) | (refine OutOK.gate (fun hg => ?_) (fun hg => ?_) <;> (try (have hg' := hg; simp at hg'))) | (refine OutOK.callF [] (by simp [*]; rfl) (by simp [*]; rfl) (by simp [*]; rfl) hb74 (by apply cg <;> first | assumption | exact Hd.out (by assumption) | ((try (clear e0)); (try (clear e1)); (try (clear e2)); (try (clear e3)); (try (clear e4)); (try (clear e5)); (try (clear e6)); (try (clear e7)); (try (clear e8)); (try (clear e9)); (try (clear e10)); (try (clear e11)); omega)) ⟨by simp [*], by simp [*], by simp [*], by simp [*], by simp [*]⟩ (by simp [*]) (by simp [*]; rfl) ?_) | refine OutOK.run (by simp [*]; rfl) ?_ | refine AW.ret ?_ | refine AW.skip ?_ | refine AW.exit ?_ | refine fin_r ?_ | refine fin_n ?_ | refine AW.block ?_ | refine blockQ_n ?_ | refine blockQ_r ?_ | refine blockQ_e ?_ | refine blockQ_o rfl ?_)
    refine AW.loopS (α := Nat) (fun q => q ≤ l.length) (fun q => [(0, .c (.sl true 5 (edts true l))), (6, .rf 11000 [])]) (fun q => [(11000, .sv (.sl false 1 (ints (ordL l q))))]) (fun q => l.length - q) 0 (Nat.zero_le _) [] (by simp) ⟨by simp, by simp [ordL], by simp⟩ ?_
    intro q hq
    have hol : (ordL l q).length = q := ordL_len l q
    rcases Nat.lt_or_ge q l.length with hql | hql
    · obtain ⟨n1, n2, n3⟩ := hnx.out q hql
      have hos : Hd (ordL l (q + 1) = ordL l q ++ [(nxtI l (ordL l q) : Int)]) := rfl
      have hnf : Hd (∀ i, i < l.length → fre l (ordL l q) i = true → (∀ j < i, fre l (ordL l q) j = false) → nxtI l (ordL l q) = i) := fun i h1 h2 h3 => nxt_first h1 h2 h3
      have n1' : Hd _ := n1
      have n2' : Hd _ := n2
      have n3' : Hd _ := n3
      clear n1 n2 n3
      generalize nxtI l (ordL l q) = nx at *
      generalize hso : ordL l (q + 1) = so at *
      have hso' : Hd _ := hso
      clear hso
      generalize ordL l q = o at *
      have b1 : (o.length + 1) * 8 ≤ 140737488355328 := by omega
      have b2 : o.length + 1 ≤ 4611686018427387904 := by omega
      have hol2 : o.length < l.length := by omega
      have hol' : Hd _ := hol
      clear hol
      repeat' (first | with_reducible refine OutOK.done ?_ | refine thenQ_n ?_ | refine thenQ_r ?_ | refine thenQ_e ?_ | refine AW.seq ?_ | refine AW.dreg tok mixed [7]  [(0, false), (1, false), (2, false), (4, false), (5, false), (6, false), (3, false), (7, true), (8, false), (9, false), (10, false), (11, false), (12, false), (13, false), (14, false)] (by decide +kernel) rfl (by simp [*]; rfl) ?_ | refine AW.reg tok (by simp [*]; rfl) ?_ | refine AW.ifB (by simp [*]; rfl) ?_ | refine IfG.t ?_ | refine IfG.f ?_ | (refine IfG.p (fun hg => ?_) (fun hg => ?_) <;> (try (have hg' := hg; simp at hg'))) | (refine IfG.n (fun hg => ?_) (fun hg => ?_) <;> (try (have hg' := hg; simp at hg'))) | (refine OutOK.gateP (fun hg => ?_) (fun hg => ?_) <;> (try (have hg' := hg; simp at hg'))) | (refine OutOK.gateN (fun hg => ?_) (fun hg => ?_) <;> (try (have hg' := hg; simp at hg'))) | (refine IfG.g (fun hg => ?_) (fun hg => ?_) <;> (try (have hg' := hg; simp at hg'))) | (refine OutOK.gate (fun hg => ?_) (fun hg => ?_) <;> (try (have hg' := hg; simp at hg'))) | refine OutOK.run (by simp [*]; rfl) ?_ | refine AW.ret ?_ | refine AW.skip ?_ | refine AW.exit ?_ | refine fin_r ?_ | refine fin_n ?_ | refine AW.block ?_ | refine blockQ_n ?_ | refine blockQ_r ?_ | refine blockQ_e ?_ | refine blockQ_o rfl ?_)
      refine AW.loopL (α := Nat × Int) (fun p => (p.1 ≤ l.length ∧ p.2 = -1 ∧ Hd (∀ j < p.1, fre l o j = false)) ∨ (p.1 ≤ l.length ∧ p.2 = (nx : Int))) (fun p => [(0, .c (.sl true 5 (edts true l))), (6, .rf 11000 []), (7, .c (.sc (.int .i64 p.2))), (8, .c (.sc (.int .i64 (p.1 : Int))))]) (fun _ => [(11000, .sv (.sl false 1 (ints o)))]) (fun p => if p.2 = -1 then l.length - p.1 + 1 else 0) (0, -1) (.inl ⟨Nat.zero_le _, rfl, fun j hj => by simp at hj⟩) ⟨by simp, by simp, by simp⟩ ?_
      rintro ⟨i, nv⟩ hp
      simp only at hp
      rcases hp with ⟨hi, rfl, hs⟩ | ⟨hi, rfl⟩
      · have hil : i < l.length := by
          rcases Nat.lt_or_ge i l.length with hil | hil
          · exact hil
          · have := hs.out nx (by have := n1'.out; omega); rw [n2'.out] at this; cases this
        refine (w_csI l o i hil hl (by omega) hck'.out).mono fun e st hq2 => ?_
        obtain ⟨rfl, hq2⟩ := hq2
        rcases hq2 with ⟨hf, hq2⟩ | ⟨hf, hq2⟩
        · have hnx2 := hnf.out i hil hf hs.out
          rw [← hnx2] at hq2
          exact ⟨(i + 1, (nx : Int)), .inr ⟨hil, rfl⟩, by simpa [hnx2] using hq2, by simp only [if_pos]; rw [if_neg (by omega)]; omega⟩
        · refine ⟨(i + 1, -1), .inl ⟨hil, rfl, fun j hj => ?_⟩, hq2, by simp only [if_pos]; omega⟩
          rcases Nat.lt_succ_iff_lt_or_eq.1 hj with h1 | rfl
          · exact hs.out j h1
          · exact hf
      · have hnn : ¬ (nx : Int) < 0 := by omega
        clear hnf n1' n2' n3'
        have hx : Hd (so = o ++ [(nx : Int)]) := hos
        clear hos
        rcases Nat.lt_or_ge i l.length with hil | hil
        · repeat' (first | with_reducible refine OutOK.done ?_ | refine thenQ_n ?_ | refine thenQ_r ?_ | refine thenQ_e ?_ | refine AW.seq ?_ | refine AW.dreg tok mixed [7]  [(0, false), (1, false), (2, false), (4, false), (5, false), (6, false), (3, false), (7, true), (8, false), (9, false), (10, false), (11, false), (12, false), (13, false), (14, false)] (by decide +kernel) rfl (by simp [*]; rfl) ?_ | refine AW.reg tok (by simp [*]; rfl) ?_ | refine AW.ifB (by simp [*]; rfl) ?_ | refine IfG.t ?_ | refine IfG.f ?_ | (refine IfG.p (fun hg => ?_) (fun hg => ?_) <;> (try (have hg' := hg; simp at hg'))) | (refine IfG.n (fun hg => ?_) (fun hg => ?_) <;> (try (have hg' := hg; simp at hg'))) | (refine OutOK.gateP (fun hg => ?_) (fun hg => ?_) <;> (try (have hg' := hg; simp at hg'))) | (refine OutOK.gateN (fun hg => ?_) (fun hg => ?_) <;> (try (have hg' := hg; simp at hg'))) | (refine IfG.g (fun hg => ?_) (fun hg => ?_) <;> (try (have hg' := hg; simp at hg'))) | (refine OutOK.gate (fun hg => ?_) (fun hg => ?_) <;> (try (have hg' := hg; simp at hg'))) | refine OutOK.run (by simp [*]; rfl) ?_ | refine AW.ret ?_ | refine AW.skip ?_ | refine AW.exit ?_ | refine fin_r ?_ | refine fin_n ?_ | refine AW.block ?_ | refine blockQ_n ?_ | refine blockQ_r ?_ | refine blockQ_e ?_ | refine blockQ_o rfl ?_)
          exact ⟨q + 1, hql, ⟨[(65000, 11000)], by simp, by simp, by simp [hso'.out, hx.out], by simp⟩, by omega⟩
        · have hil2 : ¬ i < l.length := by omega
          repeat' (first | with_reducible refine OutOK.done ?_ | refine thenQ_n ?_ | refine thenQ_r ?_ | refine thenQ_e ?_ | refine AW.seq ?_ | refine AW.dreg tok mixed [7]  [(0, false), (1, false), (2, false), (4, false), (5, false), (6, false), (3, false), (7, true), (8, false), (9, false), (10, false), (11, false), (12, false), (13, false), (14, false)] (by decide +kernel) rfl (by simp [*]; rfl) ?_ | refine AW.reg tok (by simp [*]; rfl) ?_ | refine AW.ifB (by simp [*]; rfl) ?_ | refine IfG.t ?_ | refine IfG.f ?_ | (refine IfG.p (fun hg => ?_) (fun hg => ?_) <;> (try (have hg' := hg; simp at hg'))) | (refine IfG.n (fun hg => ?_) (fun hg => ?_) <;> (try (have hg' := hg; simp at hg'))) | (refine OutOK.gateP (fun hg => ?_) (fun hg => ?_) <;> (try (have hg' := hg; simp at hg'))) | (refine OutOK.gateN (fun hg => ?_) (fun hg => ?_) <;> (try (have hg' := hg; simp at hg'))) | (refine IfG.g (fun hg => ?_) (fun hg => ?_) <;> (try (have hg' := hg; simp at hg'))) | (refine OutOK.gate (fun hg => ?_) (fun hg => ?_) <;> (try (have hg' := hg; simp at hg'))) | refine OutOK.run (by simp [*]; rfl) ?_ | refine AW.ret ?_ | refine AW.skip ?_ | refine AW.exit ?_ | refine fin_r ?_ | refine fin_n ?_ | refine AW.block ?_ | refine blockQ_n ?_ | refine blockQ_r ?_ | refine blockQ_e ?_ | refine blockQ_o rfl ?_)
          exact ⟨q + 1, hql, ⟨[(65000, 11000)], by simp, by simp, by simp [hso'.out, hx.out], by simp⟩, by omega⟩
    · have hqq : q = l.length := by omega
      subst hqq
      have hr := hor.out
      subst hr
      clear hnx hor
      repeat' (first | with_reducible refine OutOK.done ?_ | refine thenQ_n ?_ | refine thenQ_r ?_ | refine thenQ_e ?_ | refine AW.seq ?_ | refine AW.dreg tok mixed [7]  [(0, false), (1, false), (2, false), (4, false), (5, false), (6, false), (3, false), (7, true), (8, false), (9, false), (10, false), (11, false), (12, false), (13, false), (14, false)] (by decide +kernel) rfl (by simp [*]; rfl) ?_ | refine AW.reg tok (by simp [*]; rfl) ?_ | refine AW.ifB (by simp [*]; rfl) ?_ | refine IfG.t ?_ | refine IfG.f ?_ | (refine IfG.p (fun hg => ?_) (fun hg => ?_) <;> (try (have hg' := hg; simp at hg'))) | (refine IfG.n (fun hg => ?_) (fun hg => ?_) <;> (try (have hg' := hg; simp at hg'))) | (refine OutOK.gateP (fun hg => ?_) (fun hg => ?_) <;> (try (have hg' := hg; simp at hg'))) | (refine OutOK.gateN (fun hg => ?_) (fun hg => ?_) <;> (try (have hg' := hg; simp at hg'))) | (refine IfG.g (fun hg => ?_) (fun hg => ?_) <;> (try (have hg' := hg; simp at hg'))) | (refine OutOK.gate (fun hg => ?_) (fun hg => ?_) <;> (try (have hg' := hg; simp at hg'))) | refine OutOK.run (by simp [*]; rfl) ?_ | refine AW.ret ?_ | refine AW.skip ?_ | refine AW.exit ?_ | refine fin_r ?_ | refine fin_n ?_ | refine AW.block ?_ | refine blockQ_n ?_ | refine blockQ_r ?_ | refine blockQ_e ?_ | refine blockQ_o rfl ?_)
      simp [Try.f36]
end Go.Proofs.Ytbofobjofngoeaa.EngS


set_option linter.unusedSimpArgs false
set_option linter.unusedVariables false
set_option maxHeartbeats 4000000
set_option maxRecDepth 100000
namespace Go.Proofs.Ytbofobjofngoeaa.EngS
open Go Go.Proofs Go.Eng Go.RowKit
attribute [local irreducible] Go.RowKit.wrap64
theorem law_FnExactCausalOrder (x : List EdtX) (n : Int) (hw : WfX x) (hn : (Lit.int .i64 n).wf = true) :
  ACall Try.prog 7 [.v (.sl true 5 (x.map fun x => PV.ag [PV.sc (.int .i64 x.1), PV.sc (.int .i64 x.2.1), PV.sl true 1 (x.2.2.1.map (fun n => PV.sc (.int .i64 n))), PV.sc (.string x.2.2.2.1), PV.sc (.string x.2.2.2.2)])), int n] [.x, .x] [boo true] := by
  rw [edts_X]
  obtain ⟨h1, h2⟩ := hw.v
  clear hw hn
  generalize x.map edtX = l at *
  refine ACallX.one ?_
  have cz := x_laws_szEditS l 1048576 h1 h2 (by decide) (by decide)
  clear h2
  refine ACallX.of (N := 101) tok Try.func7 rfl rfl rfl (by simp) ?_
  repeat' (first | with_reducible refine OutOK.done ?_ | refine thenQ_n ?_ | refine thenQ_r ?_ | refine thenQ_e ?_ | refine AW.seq ?_ | refine AW.reg tok (by simp [*]; rfl) ?_ | refine AW.ifB (by simp [*]; rfl) ?_ | refine IfG.t ?_ | refine IfG.f ?_ | (refine IfG.p (fun hg => ?_) (fun hg => ?_) <;> (try (have hg' := hg; simp at hg'))) | (refine IfG.n (fun hg => ?_) (fun hg => ?_) <;> (try (have hg' := hg; simp at hg'))) | (refine OutOK.gateP (fun hg => ?_) (fun hg => ?_) <;> (try (have hg' := hg; simp at hg'))) | (refine OutOK.gateN (fun hg => ?_) (fun hg => ?_) <;> (try (have hg' := hg; simp at hg'))) | (refine IfG.g (fun hg => ?_) (fun hg => ?_) <;> (try (have hg' := hg; simp at hg'))) | (refine OutOK.gate (fun hg => ?_) (fun hg => ?_) <;> (try (have hg' := hg; simp at hg'))) | refine OutOK.run (by simp [*]; rfl) ?_ | refine AW.ret ?_ | refine AW.skip ?_ | refine AW.exit ?_ | refine fin_r ?_ | refine fin_n ?_ | refine AW.block ?_ | refine blockQ_n ?_ | refine blockQ_r ?_ | refine blockQ_e ?_ | refine blockQ_o rfl ?_)
  refine OutOK.callX [] (by simp [*]; rfl) (by simp [*]; rfl) (by simp [*]; rfl) hb23 (by apply cz <;> first | assumption | exact Hd.out (by assumption) | ((try (clear e0)); (try (clear e1)); (try (clear e2)); (try (clear e3)); (try (clear e4)); (try (clear e5)); (try (clear e6)); (try (clear e7)); (try (clear e8)); (try (clear e9)); (try (clear e10)); (try (clear e11)); omega)) ⟨by simp [*], by simp [*], by simp [*]⟩ (by simp [*]) (fun x hx => ?_)
  obtain ⟨-, c2⟩ := hx
  clear cz
  rcases Int.lt_or_le x 0 with hz | hz
  · clear c2
    refine CallX.mk' ⟨by simp [*], by simp [*], by simp [*], by simp [*], by simp [*]⟩ (by simp [*]; rfl) ?_
    repeat' (first | with_reducible refine OutOK.done ?_ | refine thenQ_n ?_ | refine thenQ_r ?_ | refine thenQ_e ?_ | refine AW.seq ?_ | refine AW.reg tok (by simp [*]; rfl) ?_ | refine AW.ifB (by simp [*]; rfl) ?_ | refine IfG.t ?_ | refine IfG.f ?_ | (refine IfG.p (fun hg => ?_) (fun hg => ?_) <;> (try (have hg' := hg; simp at hg'))) | (refine IfG.n (fun hg => ?_) (fun hg => ?_) <;> (try (have hg' := hg; simp at hg'))) | (refine OutOK.gateP (fun hg => ?_) (fun hg => ?_) <;> (try (have hg' := hg; simp at hg'))) | (refine OutOK.gateN (fun hg => ?_) (fun hg => ?_) <;> (try (have hg' := hg; simp at hg'))) | (refine IfG.g (fun hg => ?_) (fun hg => ?_) <;> (try (have hg' := hg; simp at hg'))) | (refine OutOK.gate (fun hg => ?_) (fun hg => ?_) <;> (try (have hg' := hg; simp at hg'))) | refine OutOK.run (by simp [*]; rfl) ?_ | refine AW.ret ?_ | refine AW.skip ?_ | refine AW.exit ?_ | refine fin_r ?_ | refine fin_n ?_ | refine AW.block ?_ | refine blockQ_n ?_ | refine blockQ_r ?_ | refine blockQ_e ?_ | refine blockQ_o rfl ?_)
    exact ⟨(), trivial, by simp [Try.f7]⟩
  obtain ⟨l1, l2, l3⟩ := c2 hz
  have hz' : ¬ x < 0 := by omega
  have ct := c_laws_toEditS l l1 l2
  have c1 := c_spec_CausalOrder l n l1 l2
  have c2' := c_impl_CausalOrder l n l1 l2
  have cq := c_laws_eqEditS l (by omega) (fun e he => (l2 e he).w)
  have hl := ordR_len l n
  generalize hist l n = B at *
  generalize ordR l n = cs at *
  have ci := c_laws_eqIntS cs cs (by omega)
  have km := c_laws_markIntS cs 1 (by omega) (by omega) (by omega)
  have kh := c_laws_heldIntS cs.length 1 (by omega) (by omega) (by omega)
  have hk2 : ¬ (1 : Int) + cs.length < 0 := by omega
  have ke := c_laws_markEditS l 1 l1 l3 (by omega) (by omega)
  obtain ⟨m, hm⟩ : ∃ m : Nat, 1 + totE (lens l) = m := ⟨_, rfl⟩
  rw [hm] at ke
  have hm0' : ¬ (m : Int) < 0 := by omega
  clear hm l3
  clear l2 c2
  refine CallX.mk' ⟨by simp [*], by simp [*], by simp [*], by simp [*], by simp [*]⟩ (by simp [*]; rfl) ?_
  repeat' (first | with_reducible refine OutOK.done ?_ | refine thenQ_n ?_ | refine thenQ_r ?_ | refine thenQ_e ?_ | refine AW.seq ?_ | refine AW.reg tok (by simp [*]; rfl) ?_ | refine AW.ifB (by simp [*]; rfl) ?_ | refine IfG.t ?_ | refine IfG.f ?_ | (refine IfG.p (fun hg => ?_) (fun hg => ?_) <;> (try (have hg' := hg; simp at hg'))) | (refine IfG.n (fun hg => ?_) (fun hg => ?_) <;> (try (have hg' := hg; simp at hg'))) | (refine OutOK.gateP (fun hg => ?_) (fun hg => ?_) <;> (try (have hg' := hg; simp at hg'))) | (refine OutOK.gateN (fun hg => ?_) (fun hg => ?_) <;> (try (have hg' := hg; simp at hg'))) | (refine IfG.g (fun hg => ?_) (fun hg => ?_) <;> (try (have hg' := hg; simp at hg'))) | (refine OutOK.gate (fun hg => ?_) (fun hg => ?_) <;> (try (have hg' := hg; simp at hg'))) | (refine OutOK.callF [] (by simp [*]; rfl) (by simp [*]; rfl) (by simp [*]; rfl) hb25 (by apply ct <;> first | assumption | exact Hd.out (by assumption) | ((try (clear e0)); (try (clear e1)); (try (clear e2)); (try (clear e3)); (try (clear e4)); (try (clear e5)); (try (clear e6)); (try (clear e7)); (try (clear e8)); (try (clear e9)); (try (clear e10)); (try (clear e11)); omega)) ⟨by simp [*], by simp [*], by simp [*], by simp [*], by simp [*]⟩ (by simp [*]) (by simp [*]; rfl) ?_) | (refine OutOK.callF [] (by simp [*]; rfl) (by simp [*]; rfl) (by simp [*]; rfl) hb36 (by apply c1 <;> first | assumption | exact Hd.out (by assumption) | ((try (clear e0)); (try (clear e1)); (try (clear e2)); (try (clear e3)); (try (clear e4)); (try (clear e5)); (try (clear e6)); (try (clear e7)); (try (clear e8)); (try (clear e9)); (try (clear e10)); (try (clear e11)); omega)) ⟨by simp [*], by simp [*], by simp [*], by simp [*], by simp [*]⟩ (by simp [*]) (by simp [*]; rfl) ?_) | (refine OutOK.callF [] (by simp [*]; rfl) (by simp [*]; rfl) (by simp [*]; rfl) hb37 (by apply c2' <;> first | assumption | exact Hd.out (by assumption) | ((try (clear e0)); (try (clear e1)); (try (clear e2)); (try (clear e3)); (try (clear e4)); (try (clear e5)); (try (clear e6)); (try (clear e7)); (try (clear e8)); (try (clear e9)); (try (clear e10)); (try (clear e11)); omega)) ⟨by simp [*], by simp [*], by simp [*], by simp [*], by simp [*]⟩ (by simp [*]) (by simp [*]; rfl) ?_) | (refine OutOK.callF [] (by simp [*]; rfl) (by simp [*]; rfl) (by simp [*]; rfl) hb27 (by apply cq <;> first | assumption | exact Hd.out (by assumption) | ((try (clear e0)); (try (clear e1)); (try (clear e2)); (try (clear e3)); (try (clear e4)); (try (clear e5)); (try (clear e6)); (try (clear e7)); (try (clear e8)); (try (clear e9)); (try (clear e10)); (try (clear e11)); omega)) ⟨by simp [*], by simp [*], by simp [*], by simp [*], by simp [*]⟩ (by simp [*]) (by simp [*]; rfl) ?_) | (refine OutOK.callF [] (by simp [*]; rfl) (by simp [*]; rfl) (by simp [*]; rfl) hb32 (by apply ci <;> first | assumption | exact Hd.out (by assumption) | ((try (clear e0)); (try (clear e1)); (try (clear e2)); (try (clear e3)); (try (clear e4)); (try (clear e5)); (try (clear e6)); (try (clear e7)); (try (clear e8)); (try (clear e9)); (try (clear e10)); (try (clear e11)); omega)) ⟨by simp [*], by simp [*], by simp [*], by simp [*], by simp [*]⟩ (by simp [*]) (by simp [*]; rfl) ?_) | (refine OutOK.callF [true, false] (by simp [*]; rfl) (by simp [*]; rfl) (by simp [*]; rfl) hb34 (by apply km <;> first | assumption | exact Hd.out (by assumption) | ((try (clear e0)); (try (clear e1)); (try (clear e2)); (try (clear e3)); (try (clear e4)); (try (clear e5)); (try (clear e6)); (try (clear e7)); (try (clear e8)); (try (clear e9)); (try (clear e10)); (try (clear e11)); omega)) ⟨by simp [*], by simp [*], by simp [*], by simp [*], by simp [*]⟩ (by simp [*]) (by simp [*]; rfl) ?_) | (refine OutOK.callF [] (by simp [*]; rfl) (by simp [*]; rfl) (by simp [*]; rfl) hb35 (by apply kh <;> first | assumption | exact Hd.out (by assumption) | ((try (clear e0)); (try (clear e1)); (try (clear e2)); (try (clear e3)); (try (clear e4)); (try (clear e5)); (try (clear e6)); (try (clear e7)); (try (clear e8)); (try (clear e9)); (try (clear e10)); (try (clear e11)); omega)) ⟨by simp [*], by simp [*], by simp [*], by simp [*], by simp [*]⟩ (by simp [*]) (by simp [*]; rfl) ?_) | (refine OutOK.callF [true, false] (by simp [*]; rfl) (by simp [*]; rfl) (by simp [*]; rfl) hb33 (by apply ke <;> first | assumption | exact Hd.out (by assumption) | ((try (clear e0)); (try (clear e1)); (try (clear e2)); (try (clear e3)); (try (clear e4)); (try (clear e5)); (try (clear e6)); (try (clear e7)); (try (clear e8)); (try (clear e9)); (try (clear e10)); (try (clear e11)); omega)) ⟨by simp [*], by simp [*], by simp [*], by simp [*], by simp [*]⟩ (by simp [*]) (by simp [*]; rfl) ?_) | refine OutOK.run (by simp [*]; rfl) ?_ | refine AW.ret ?_ | refine AW.skip ?_ | refine AW.exit ?_ | refine fin_r ?_ | refine fin_n ?_ | refine AW.block ?_ | refine blockQ_n ?_ | refine blockQ_r ?_ | refine blockQ_e ?_ | refine blockQ_o rfl ?_)
  exact ⟨(), trivial, by simp [Try.f7]⟩
end Go.Proofs.Ytbofobjofngoeaa.EngS

