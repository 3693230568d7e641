-- Written by this session's texts and program for this claim. Lean checks it.
import Derived.Test.YtbofobjofngoeaaVFnExactKnownBy4
set_option autoImplicit true
set_option relaxedAutoImplicit true
set_option linter.unusedSimpArgs false
set_option linter.unusedVariables false
set_option maxHeartbeats 4000000
set_option maxRecDepth 100000
namespace Go.Proofs.Ytbofobjofngoeaa.EngS
open Go Go.Proofs Go.Eng Go.RowKit
attribute [local irreducible] Go.RowKit.wrap64
def Ih2Q (l : List Edt) (n : Int) (i : Nat) (h : i < l.length) (e : Exit) (st : St) : Prop :=
  (e = .ret ∧ ¬ (∀ t < l[i].ck.length, inR 0 (cntE l (t : Int)) (ckAt l[i].ck (t : Int)) = true) ∧ FinP T Try.f26.results.toList [.v (.sl true 5 (edts true l)), int n] [.x, .x] [boo false] st) ∨
  (e = .normal ∧ (∀ t < l[i].ck.length, inR 0 (cntE l (t : Int)) (ckAt l[i].ck (t : Int)) = true) ∧ LessL st [(0, .c (.sl true 5 (edts true l))), (1, .c (.sc (.int .i64 n))), (5, .rf 25000 []), (100, .c (.sl true 5 (edts true l))), (101, .c (.sc (.int .i64 (l.length : Int)))), (102, .c (.sc (.int .i64 ((i + 1 : Nat) : Int))))] [(25000, .sv (.sl false 1 (ints (cts l n l.length))))])
theorem w_ih2 (l : List Edt) (n : Int) (i : Nat) (h : i < l.length) (hl : l.length ≤ 24) (h1 : 1 ≤ n) (h3 : n ≤ 3) (hln : (l[i].ck.length : Int) = n) : AW Try.prog 152 (cAt Try.f26 [2, 2, 2, 2, 1, 2, 5, 7]) (mk [(0, .c (.sl true 5 (edts true l))), (1, .c (.sc (.int .i64 n))), (5, .rf 25000 []), (100, .c (.sl true 5 (edts true l))), (101, .c (.sc (.int .i64 (l.length : Int)))), (102, .c (.sc (.int .i64 (i : Int))))] [(25000, .sv (.sl false 1 (ints (cts l n l.length))))]) (Ih2Q l n i h) := by
  have e1 : wrap64 ((i : Int) + 1) = ((i + 1 : Nat) : Int) := by rw [w64 (by omega) (by omega)]; omega
  have hat : Hd (∀ t (h : t < (cts l n l.length).length), (cts l n l.length)[t] = ((cntE l (t : Int) : Nat) : Int)) := fun t h => by rw [cts_at, List.take_length]
  have hcl : Hd ((cts l n l.length).length = n.toNat) := cts_len _ _ _
  have hck3 : l[i].ck.length ≤ 3 := by omega
  have hln' : Hd _ := hln
  clear hln
  generalize hcts : cts l n l.length = cl at *
  have hcts' : Hd _ := hcts
  clear hcts
  repeat' (first | with_reducible refine OutOK.done ?_ | refine thenQ_n ?_ | refine thenQ_r ?_ | refine thenQ_e ?_ | refine AW.seq ?_ | refine AW.dreg tok mixed [15, 25, 26, 27, 28]  [(0, false), (2, false), (3, false), (1, false), (4, false), (5, false), (6, false), (7, false), (8, false), (9, false), (10, false), (11, false), (12, false), (13, false), (14, false), (15, true), (16, false), (17, false), (18, false), (19, false), (20, false), (21, false), (23, false), (24, false), (22, false), (25, true), (26, true), (27, true), (28, true), (29, false), (30, false)] (by decide +kernel) rfl (by simp [*]; rfl) ?_ | refine AW.dreg tok mixed [9, 13]  [(0, false), (3, false), (1, false), (2, false), (4, false), (5, false), (6, false), (8, false), (12, false), (7, false), (9, true), (10, false), (11, false), (13, true), (14, false), (15, false), (16, false), (17, false), (18, false), (19, false), (20, false), (21, false), (22, false), (23, false), (24, false), (25, false), (26, false), (27, false)] (by decide +kernel) rfl (by simp [*]; rfl) ?_ | refine AW.reg tok (by simp [*]; rfl) ?_ | refine AW.ifB (by simp [*]; rfl) ?_ | refine IfG.t ?_ | refine IfG.f ?_ | (refine IfG.p (fun hg => ?_) (fun hg => ?_) <;> (try (have hg' := hg; simp at hg'))) | (refine IfG.n (fun hg => ?_) (fun hg => ?_) <;> (try (have hg' := hg; simp at hg'))) | (refine OutOK.gateP (fun hg => ?_) (fun hg => ?_) <;> (try (have hg' := hg; simp at hg'))) | (refine OutOK.gateN (fun hg => ?_) (fun hg => ?_) <;> (try (have hg' := hg; simp at hg'))) | (refine IfG.g (fun hg => ?_) (fun hg => ?_) <;> (try (have hg' := hg; simp at hg'))) | (refine OutOK.gate (fun hg => ?_) (fun hg => ?_) <;> (try (have hg' := hg; simp at hg'))) | refine OutOK.run (by simp [*]; rfl) ?_ | refine AW.ret ?_ | refine AW.skip ?_ | refine AW.exit ?_ | refine fin_r ?_ | refine fin_n ?_ | refine AW.block ?_ | refine blockQ_n ?_ | refine blockQ_r ?_ | refine blockQ_e ?_ | refine blockQ_o rfl ?_)
  refine AW.loopL (α := Nat) (fun t => t ≤ l[i].ck.length ∧ Hd (∀ j < t, inR 0 (cntE l (j : Int)) (ckAt l[i].ck (j : Int)) = true)) (fun t => [(0, .c (.sl true 5 (edts true l))), (1, .c (.sc (.int .i64 n))), (5, .rf 25000 []), (100, .c (.sl true 5 (edts true l))), (101, .c (.sc (.int .i64 (l.length : Int)))), (102, .c (.sc (.int .i64 (i : Int)))), (107, .c (.sl true 1 (ints l[i].ck))), (108, .c (.sc (.int .i64 (l[i].ck.length : Int)))), (109, .c (.sc (.int .i64 (t : Int))))]) (fun _ => [(25000, .sv (.sl false 1 (ints cl)))]) (fun t => l[i].ck.length - t) 0 ⟨Nat.zero_le _, fun j hj => by omega⟩ ⟨by simp, by simp, by simp⟩ ?_
  rintro t ⟨ht, hs⟩
  rcases Nat.lt_or_ge t l[i].ck.length with htl | htl
  · have e2 : wrap64 ((t : Int) + 1) = ((t + 1 : Nat) : Int) := by rw [w64 (by omega) (by omega)]; omega
    have htc : t < cl.length := by have := hcl.out; have := hln'.out; omega
    have h2 := hat.out t htc
    have hca : Hd (ckAt l[i].ck (t : Int) = l[i].ck[t]) := by simp [Hd, ckAt, htl]
    have hR0 : Hd (inR 0 (cntE l (t : Int)) (ckAt l[i].ck (t : Int)) = inR 0 (cntE l (t : Int)) l[i].ck[t]) := by rw [Hd, hca.out]
    generalize hcn : cntE l (t : Int) = c at *
    cases hR : inR 0 (c : Int) l[i].ck[t] with
    | false =>
      have hb : Hd (¬ (∀ t < l[i].ck.length, inR 0 (cntE l (t : Int)) (ckAt l[i].ck (t : Int)) = true)) := fun hh => by have := hh t htl; rw [hcn, hR0.out, hR] at this; cases this
      clear hcn
      repeat' (first | with_reducible refine OutOK.done ?_ | refine thenQ_n ?_ | refine thenQ_r ?_ | refine thenQ_e ?_ | refine AW.seq ?_ | refine AW.dreg tok mixed [15, 25, 26, 27, 28]  [(0, false), (2, false), (3, false), (1, false), (4, false), (5, false), (6, false), (7, false), (8, false), (9, false), (10, false), (11, false), (12, false), (13, false), (14, false), (15, true), (16, false), (17, false), (18, false), (19, false), (20, false), (21, false), (23, false), (24, false), (22, false), (25, true), (26, true), (27, true), (28, true), (29, false), (30, false)] (by decide +kernel) rfl (by simp [*]; rfl) ?_ | refine AW.dreg tok mixed [9, 13]  [(0, false), (3, false), (1, false), (2, false), (4, false), (5, false), (6, false), (8, false), (12, false), (7, false), (9, true), (10, false), (11, false), (13, true), (14, false), (15, false), (16, false), (17, false), (18, false), (19, false), (20, false), (21, false), (22, false), (23, false), (24, false), (25, false), (26, false), (27, false)] (by decide +kernel) rfl (by simp [*]; rfl) ?_ | refine AW.reg tok (by simp [*]; rfl) ?_ | refine AW.ifB (by simp [*]; rfl) ?_ | refine IfG.t ?_ | refine IfG.f ?_ | (refine IfG.p (fun hg => ?_) (fun hg => ?_) <;> (try (have hg' := hg; simp at hg'))) | (refine IfG.n (fun hg => ?_) (fun hg => ?_) <;> (try (have hg' := hg; simp at hg'))) | (refine OutOK.gateP (fun hg => ?_) (fun hg => ?_) <;> (try (have hg' := hg; simp at hg'))) | (refine OutOK.gateN (fun hg => ?_) (fun hg => ?_) <;> (try (have hg' := hg; simp at hg'))) | (refine IfG.g (fun hg => ?_) (fun hg => ?_) <;> (try (have hg' := hg; simp at hg'))) | (refine OutOK.gate (fun hg => ?_) (fun hg => ?_) <;> (try (have hg' := hg; simp at hg'))) | (refine OutOK.callF [] (by simp [*]; rfl) (by simp [*]; rfl) (by simp [*]; rfl) hb59 (by apply c_impl_within <;> first | assumption | exact Hd.out (by assumption) | ((try (clear e0)); (try (clear e1)); (try (clear e2)); (try (clear e3)); (try (clear e4)); (try (clear e5)); (try (clear e6)); (try (clear e7)); (try (clear e8)); (try (clear e9)); (try (clear e10)); (try (clear e11)); omega)) ⟨by simp [*], by simp [*], by simp [*], by simp [*], by simp [*]⟩ (by simp [*]) (by simp [*]; rfl) ?_) | refine OutOK.run (by simp [*]; rfl) ?_ | refine AW.ret ?_ | refine AW.skip ?_ | refine AW.exit ?_ | refine fin_r ?_ | refine fin_n ?_ | refine AW.block ?_ | refine blockQ_n ?_ | refine blockQ_r ?_ | refine blockQ_e ?_ | refine blockQ_o rfl ?_)
      exact .inl ⟨rfl, hb.out, by simp [Try.f26]⟩
    | true =>
      have hs2 : Hd (∀ j < t + 1, inR 0 (cntE l (j : Int)) (ckAt l[i].ck (j : Int)) = true) := by
        intro j hj
        rcases Nat.lt_succ_iff_lt_or_eq.1 hj with h2 | rfl
        · exact hs.out j h2
        · rw [hcn, hR0.out, hR]
      clear hcn
      repeat' (first | with_reducible refine OutOK.done ?_ | refine thenQ_n ?_ | refine thenQ_r ?_ | refine thenQ_e ?_ | refine AW.seq ?_ | refine AW.dreg tok mixed [15, 25, 26, 27, 28]  [(0, false), (2, false), (3, false), (1, false), (4, false), (5, false), (6, false), (7, false), (8, false), (9, false), (10, false), (11, false), (12, false), (13, false), (14, false), (15, true), (16, false), (17, false), (18, false), (19, false), (20, false), (21, false), (23, false), (24, false), (22, false), (25, true), (26, true), (27, true), (28, true), (29, false), (30, false)] (by decide +kernel) rfl (by simp [*]; rfl) ?_ | refine AW.dreg tok mixed [9, 13]  [(0, false), (3, false), (1, false), (2, false), (4, false), (5, false), (6, false), (8, false), (12, false), (7, false), (9, true), (10, false), (11, false), (13, true), (14, false), (15, false), (16, false), (17, false), (18, false), (19, false), (20, false), (21, false), (22, false), (23, false), (24, false), (25, false), (26, false), (27, false)] (by decide +kernel) rfl (by simp [*]; rfl) ?_ | refine AW.reg tok (by simp [*]; rfl) ?_ | refine AW.ifB (by simp [*]; rfl) ?_ | refine IfG.t ?_ | refine IfG.f ?_ | (refine IfG.p (fun hg => ?_) (fun hg => ?_) <;> (try (have hg' := hg; simp at hg'))) | (refine IfG.n (fun hg => ?_) (fun hg => ?_) <;> (try (have hg' := hg; simp at hg'))) | (refine OutOK.gateP (fun hg => ?_) (fun hg => ?_) <;> (try (have hg' := hg; simp at hg'))) | (refine OutOK.gateN (fun hg => ?_) (fun hg => ?_) <;> (try (have hg' := hg; simp at hg'))) | (refine IfG.g (fun hg => ?_) (fun hg => ?_) <;> (try (have hg' := hg; simp at hg'))) | (refine OutOK.gate (fun hg => ?_) (fun hg => ?_) <;> (try (have hg' := hg; simp at hg'))) | (refine OutOK.callF [] (by simp [*]; rfl) (by simp [*]; rfl) (by simp [*]; rfl) hb59 (by apply c_impl_within <;> first | assumption | exact Hd.out (by assumption) | ((try (clear e0)); (try (clear e1)); (try (clear e2)); (try (clear e3)); (try (clear e4)); (try (clear e5)); (try (clear e6)); (try (clear e7)); (try (clear e8)); (try (clear e9)); (try (clear e10)); (try (clear e11)); omega)) ⟨by simp [*], by simp [*], by simp [*], by simp [*], by simp [*]⟩ (by simp [*]) (by simp [*]; rfl) ?_) | refine OutOK.run (by simp [*]; rfl) ?_ | refine AW.ret ?_ | refine AW.skip ?_ | refine AW.exit ?_ | refine fin_r ?_ | refine fin_n ?_ | refine AW.block ?_ | refine blockQ_n ?_ | refine blockQ_r ?_ | refine blockQ_e ?_ | refine blockQ_o rfl ?_)
      exact ⟨t + 1, ⟨htl, hs2⟩, ⟨by simp, by simp, by simp⟩, by ((try (clear e0)); (try (clear e1)); (try (clear e2)); (try (clear e3)); (try (clear e4)); (try (clear e5)); (try (clear e6)); (try (clear e7)); (try (clear e8)); (try (clear e9)); (try (clear e10)); (try (clear e11)); omega)⟩
  · have htn : ¬ t < l[i].ck.length := by omega
    have hs2 : Hd (∀ j < l[i].ck.length, inR 0 (cntE l (j : Int)) (ckAt l[i].ck (j : Int)) = true) := fun j hj => hs.out j (by omega)
    repeat' (first | with_reducible refine OutOK.done ?_ | refine thenQ_n ?_ | refine thenQ_r ?_ | refine thenQ_e ?_ | refine AW.seq ?_ | refine AW.dreg tok mixed [15, 25, 26, 27, 28]  [(0, false), (2, false), (3, false), (1, false), (4, false), (5, false), (6, false), (7, false), (8, false), (9, false), (10, false), (11, false), (12, false), (13, false), (14, false), (15, true), (16, false), (17, false), (18, false), (19, false), (20, false), (21, false), (23, false), (24, false), (22, false), (25, true), (26, true), (27, true), (28, true), (29, false), (30, false)] (by decide +kernel) rfl (by simp [*]; rfl) ?_ | refine AW.dreg tok mixed [9, 13]  [(0, false), (3, false), (1, false), (2, false), (4, false), (5, false), (6, false), (8, false), (12, false), (7, false), (9, true), (10, false), (11, false), (13, true), (14, false), (15, false), (16, false), (17, false), (18, false), (19, false), (20, false), (21, false), (22, false), (23, false), (24, false), (25, false), (26, false), (27, false)] (by decide +kernel) rfl (by simp [*]; rfl) ?_ | refine AW.reg tok (by simp [*]; rfl) ?_ | refine AW.ifB (by simp [*]; rfl) ?_ | refine IfG.t ?_ | refine IfG.f ?_ | (refine IfG.p (fun hg => ?_) (fun hg => ?_) <;> (try (have hg' := hg; simp at hg'))) | (refine IfG.n (fun hg => ?_) (fun hg => ?_) <;> (try (have hg' := hg; simp at hg'))) | (refine OutOK.gateP (fun hg => ?_) (fun hg => ?_) <;> (try (have hg' := hg; simp at hg'))) | (refine OutOK.gateN (fun hg => ?_) (fun hg => ?_) <;> (try (have hg' := hg; simp at hg'))) | (refine IfG.g (fun hg => ?_) (fun hg => ?_) <;> (try (have hg' := hg; simp at hg'))) | (refine OutOK.gate (fun hg => ?_) (fun hg => ?_) <;> (try (have hg' := hg; simp at hg'))) | refine OutOK.run (by simp [*]; rfl) ?_ | refine AW.ret ?_ | refine AW.skip ?_ | refine AW.exit ?_ | refine fin_r ?_ | refine fin_n ?_ | refine AW.block ?_ | refine blockQ_n ?_ | refine blockQ_r ?_ | refine blockQ_e ?_ | refine blockQ_o rfl ?_)
    exact .inr ⟨rfl, hs2.out, by simp, by simp [hcts'.out], by simp⟩
def Ih3Q (l : List Edt) (n : Int) (i k : Nat) (h : i < l.length) (hk : k < l.length) (e : Exit) (st : St) : Prop :=
  (e = .ret ∧ ¬ (precE l[k] l[i] = true → precE l[i] l[k] = false ∧ noGr l[k].ck l[i].ck = true) ∧ FinP T Try.f26.results.toList [.v (.sl true 5 (edts true l)), int n] [.x, .x] [boo false] st) ∨
  (e = .normal ∧ (precE l[k] l[i] = true → precE l[i] l[k] = false ∧ noGr l[k].ck l[i].ck = true) ∧ LessL st [(0, .c (.sl true 5 (edts true l))), (1, .c (.sc (.int .i64 n))), (13, .pt 13000 []  0), (123, .c (.sl true 5 (edts true l))), (124, .c (.sc (.int .i64 (l.length : Int)))), (125, .c (.sc (.int .i64 (i : Int)))), (129, .c (.sl true 5 (edts true l))), (130, .c (.sc (.int .i64 (l.length : Int)))), (131, .c (.sc (.int .i64 ((k + 1 : Nat) : Int))))] [(13000, .bx (edtC true l[i]))])
theorem w_ih3a (l : List Edt) (n : Int) (i k : Nat) (h : i < l.length) (hk : k < l.length) (hl : l.length ≤ 24) (hli : l[i].ck.length ≤ 3) (hlk : l[k].ck.length = l[i].ck.length) (p1 : precE l[k] l[i] = false) : AW Try.prog 152 (cAt Try.f26 [2, 2, 2, 2, 2, 1, 2, 5, 7, 2, 2, 1, 5, 2, 2, 5, 7]) (mk [(0, .c (.sl true 5 (edts true l))), (1, .c (.sc (.int .i64 n))), (13, .pt 13000 []  0), (123, .c (.sl true 5 (edts true l))), (124, .c (.sc (.int .i64 (l.length : Int)))), (125, .c (.sc (.int .i64 (i : Int)))), (129, .c (.sl true 5 (edts true l))), (130, .c (.sc (.int .i64 (l.length : Int)))), (131, .c (.sc (.int .i64 (k : Int))))] [(13000, .bx (edtC true l[i]))]) (Ih3Q l n i k h hk) := by
  have e1 : wrap64 ((k : Int) + 1) = ((k + 1 : Nat) : Int) := by rw [w64 (by omega) (by omega)]; omega
  have c1 := c_impl_Precedes l[k] l[i] (by omega)
  rw [p1] at c1
  have hb : Hd ((precE l[k] l[i] = true → precE l[i] l[k] = false ∧ noGr l[k].ck l[i].ck = true)) := fun hh => by rw [p1] at hh; cases hh
  clear p1 hlk hli
  repeat' (first | with_reducible refine OutOK.done ?_ | refine thenQ_n ?_ | refine thenQ_r ?_ | refine thenQ_e ?_ | refine AW.seq ?_ | refine AW.dreg tok mixed [15, 25, 26, 27, 28]  [(0, false), (2, false), (3, false), (1, false), (4, false), (5, false), (6, false), (7, false), (8, false), (9, false), (10, false), (11, false), (12, false), (13, false), (14, false), (15, true), (16, false), (17, false), (18, false), (19, false), (20, false), (21, false), (23, false), (24, false), (22, false), (25, true), (26, true), (27, true), (28, true), (29, false), (30, false)] (by decide +kernel) rfl (by simp [*]; rfl) ?_ | refine AW.dreg tok mixed [9, 13]  [(0, false), (3, false), (1, false), (2, false), (4, false), (5, false), (6, false), (8, false), (12, false), (7, false), (9, true), (10, false), (11, false), (13, true), (14, false), (15, false), (16, false), (17, false), (18, false), (19, false), (20, false), (21, false), (22, false), (23, false), (24, false), (25, false), (26, false), (27, false)] (by decide +kernel) rfl (by simp [*]; rfl) ?_ | refine AW.reg tok (by simp [*]; rfl) ?_ | refine AW.ifB (by simp [*]; rfl) ?_ | refine IfG.t ?_ | refine IfG.f ?_ | (refine IfG.p (fun hg => ?_) (fun hg => ?_) <;> (try (have hg' := hg; simp at hg'))) | (refine IfG.n (fun hg => ?_) (fun hg => ?_) <;> (try (have hg' := hg; simp at hg'))) | (refine OutOK.gateP (fun hg => ?_) (fun hg => ?_) <;> (try (have hg' := hg; simp at hg'))) | (refine OutOK.gateN (fun hg => ?_) (fun hg => ?_) <;> (try (have hg' := hg; simp at hg'))) | (refine IfG.g (fun hg => ?_) (fun hg => ?_) <;> (try (have hg' := hg; simp at hg'))) | (refine OutOK.gate (fun hg => ?_) (fun hg => ?_) <;> (try (have hg' := hg; simp at hg'))) | (refine OutOK.callF [] (by simp [*]; rfl) (by simp [*]; rfl) (by simp [*]; rfl) hb40 (by apply c1 <;> first | assumption | exact Hd.out (by assumption) | ((try (clear e0)); (try (clear e1)); (try (clear e2)); (try (clear e3)); (try (clear e4)); (try (clear e5)); (try (clear e6)); (try (clear e7)); (try (clear e8)); (try (clear e9)); (try (clear e10)); (try (clear e11)); omega)) ⟨by simp [*], by simp [*], by simp [*], by simp [*], by simp [*]⟩ (by simp [*]) (by simp [*]; rfl) ?_) | refine OutOK.run (by simp [*]; rfl) ?_ | refine AW.ret ?_ | refine AW.skip ?_ | refine AW.exit ?_ | refine fin_r ?_ | refine fin_n ?_ | refine AW.block ?_ | refine blockQ_n ?_ | refine blockQ_r ?_ | refine blockQ_e ?_ | refine blockQ_o rfl ?_)
  exact .inr ⟨rfl, hb.out, by simp, by simp, by simp⟩
theorem w_ih3b (l : List Edt) (n : Int) (i k : Nat) (h : i < l.length) (hk : k < l.length) (hl : l.length ≤ 24) (hli : l[i].ck.length ≤ 3) (hlk : l[k].ck.length = l[i].ck.length) (p1 : precE l[k] l[i] = true) (p2 : precE l[i] l[k] = true) : AW Try.prog 152 (cAt Try.f26 [2, 2, 2, 2, 2, 1, 2, 5, 7, 2, 2, 1, 5, 2, 2, 5, 7]) (mk [(0, .c (.sl true 5 (edts true l))), (1, .c (.sc (.int .i64 n))), (13, .pt 13000 []  0), (123, .c (.sl true 5 (edts true l))), (124, .c (.sc (.int .i64 (l.length : Int)))), (125, .c (.sc (.int .i64 (i : Int)))), (129, .c (.sl true 5 (edts true l))), (130, .c (.sc (.int .i64 (l.length : Int)))), (131, .c (.sc (.int .i64 (k : Int))))] [(13000, .bx (edtC true l[i]))]) (Ih3Q l n i k h hk) := by
  have e1 : wrap64 ((k : Int) + 1) = ((k + 1 : Nat) : Int) := by rw [w64 (by omega) (by omega)]; omega
  have c1 := c_impl_Precedes l[k] l[i] (by omega)
  rw [p1] at c1
  have c2 := c_impl_Precedes l[i] l[k] (by omega)
  rw [p2] at c2
  have hb : Hd (¬ (precE l[k] l[i] = true → precE l[i] l[k] = false ∧ noGr l[k].ck l[i].ck = true)) := fun hh => by have := (hh p1).1; rw [p2] at this; cases this
  clear p1 p2 hlk hli
  repeat' (first | with_reducible refine OutOK.done ?_ | refine thenQ_n ?_ | refine thenQ_r ?_ | refine thenQ_e ?_ | refine AW.seq ?_ | refine AW.dreg tok mixed [15, 25, 26, 27, 28]  [(0, false), (2, false), (3, false), (1, false), (4, false), (5, false), (6, false), (7, false), (8, false), (9, false), (10, false), (11, false), (12, false), (13, false), (14, false), (15, true), (16, false), (17, false), (18, false), (19, false), (20, false), (21, false), (23, false), (24, false), (22, false), (25, true), (26, true), (27, true), (28, true), (29, false), (30, false)] (by decide +kernel) rfl (by simp [*]; rfl) ?_ | refine AW.dreg tok mixed [9, 13]  [(0, false), (3, false), (1, false), (2, false), (4, false), (5, false), (6, false), (8, false), (12, false), (7, false), (9, true), (10, false), (11, false), (13, true), (14, false), (15, false), (16, false), (17, false), (18, false), (19, false), (20, false), (21, false), (22, false), (23, false), (24, false), (25, false), (26, false), (27, false)] (by decide +kernel) rfl (by simp [*]; rfl) ?_ | refine AW.reg tok (by simp [*]; rfl) ?_ | refine AW.ifB (by simp [*]; rfl) ?_ | refine IfG.t ?_ | refine IfG.f ?_ | (refine IfG.p (fun hg => ?_) (fun hg => ?_) <;> (try (have hg' := hg; simp at hg'))) | (refine IfG.n (fun hg => ?_) (fun hg => ?_) <;> (try (have hg' := hg; simp at hg'))) | (refine OutOK.gateP (fun hg => ?_) (fun hg => ?_) <;> (try (have hg' := hg; simp at hg'))) | (refine OutOK.gateN (fun hg => ?_) (fun hg => ?_) <;> (try (have hg' := hg; simp at hg'))) | (refine IfG.g (fun hg => ?_) (fun hg => ?_) <;> (try (have hg' := hg; simp at hg'))) | (refine OutOK.gate (fun hg => ?_) (fun hg => ?_) <;> (try (have hg' := hg; simp at hg'))) | (refine OutOK.callF [] (by simp [*]; rfl) (by simp [*]; rfl) (by simp [*]; rfl) hb40 (by apply c1 <;> first | assumption | exact Hd.out (by assumption) | ((try (clear e0)); (try (clear e1)); (try (clear e2)); (try (clear e3)); (try (clear e4)); (try (clear e5)); (try (clear e6)); (try (clear e7)); (try (clear e8)); (try (clear e9)); (try (clear e10)); (try (clear e11)); omega)) ⟨by simp [*], by simp [*], by simp [*], by simp [*], by simp [*]⟩ (by simp [*]) (by simp [*]; rfl) ?_) | (refine OutOK.callF [] (by simp [*]; rfl) (by simp [*]; rfl) (by simp [*]; rfl) hb40 (by apply c2 <;> first | assumption | exact Hd.out (by assumption) | ((try (clear e0)); (try (clear e1)); (try (clear e2)); (try (clear e3)); (try (clear e4)); (try (clear e5)); (try (clear e6)); (try (clear e7)); (try (clear e8)); (try (clear e9)); (try (clear e10)); (try (clear e11)); omega)) ⟨by simp [*], by simp [*], by simp [*], by simp [*], by simp [*]⟩ (by simp [*]) (by simp [*]; rfl) ?_) | refine OutOK.run (by simp [*]; rfl) ?_ | refine AW.ret ?_ | refine AW.skip ?_ | refine AW.exit ?_ | refine fin_r ?_ | refine fin_n ?_ | refine AW.block ?_ | refine blockQ_n ?_ | refine blockQ_r ?_ | refine blockQ_e ?_ | refine blockQ_o rfl ?_)
  exact .inl ⟨rfl, hb.out, by simp [Try.f26]⟩
theorem w_ih3c (l : List Edt) (n : Int) (i k : Nat) (h : i < l.length) (hk : k < l.length) (hl : l.length ≤ 24) (hli : l[i].ck.length ≤ 3) (hlk : l[k].ck.length = l[i].ck.length) (p1 : precE l[k] l[i] = true) (p2 : precE l[i] l[k] = false) (p3 : noGr l[k].ck l[i].ck = false) : AW Try.prog 152 (cAt Try.f26 [2, 2, 2, 2, 2, 1, 2, 5, 7, 2, 2, 1, 5, 2, 2, 5, 7]) (mk [(0, .c (.sl true 5 (edts true l))), (1, .c (.sc (.int .i64 n))), (13, .pt 13000 []  0), (123, .c (.sl true 5 (edts true l))), (124, .c (.sc (.int .i64 (l.length : Int)))), (125, .c (.sc (.int .i64 (i : Int)))), (129, .c (.sl true 5 (edts true l))), (130, .c (.sc (.int .i64 (l.length : Int)))), (131, .c (.sc (.int .i64 (k : Int))))] [(13000, .bx (edtC true l[i]))]) (Ih3Q l n i k h hk) := by
  have e1 : wrap64 ((k : Int) + 1) = ((k + 1 : Nat) : Int) := by rw [w64 (by omega) (by omega)]; omega
  have c1 := c_impl_Precedes l[k] l[i] (by omega)
  rw [p1] at c1
  have c2 := c_impl_Precedes l[i] l[k] (by omega)
  rw [p2] at c2
  have c3 := c_impl_noGreater l[k].ck l[i].ck (by omega) (by omega)
  rw [p3] at c3
  have hb : Hd (¬ (precE l[k] l[i] = true → precE l[i] l[k] = false ∧ noGr l[k].ck l[i].ck = true)) := fun hh => by have := (hh p1).2; rw [p3] at this; cases this
  clear p1 p2 p3 hlk hli
  repeat' (first | with_reducible refine OutOK.done ?_ | refine thenQ_n ?_ | refine thenQ_r ?_ | refine thenQ_e ?_ | refine AW.seq ?_ | refine AW.dreg tok mixed [15, 25, 26, 27, 28]  [(0, false), (2, false), (3, false), (1, false), (4, false), (5, false), (6, false), (7, false), (8, false), (9, false), (10, false), (11, false), (12, false), (13, false), (14, false), (15, true), (16, false), (17, false), (18, false), (19, false), (20, false), (21, false), (23, false), (24, false), (22, false), (25, true), (26, true), (27, true), (28, true), (29, false), (30, false)] (by decide +kernel) rfl (by simp [*]; rfl) ?_ | refine AW.dreg tok mixed [9, 13]  [(0, false), (3, false), (1, false), (2, false), (4, false), (5, false), (6, false), (8, false), (12, false), (7, false), (9, true), (10, false), (11, false), (13, true), (14, false), (15, false), (16, false), (17, false), (18, false), (19, false), (20, false), (21, false), (22, false), (23, false), (24, false), (25, false), (26, false), (27, false)] (by decide +kernel) rfl (by simp [*]; rfl) ?_ | refine AW.reg tok (by simp [*]; rfl) ?_ | refine AW.ifB (by simp [*]; rfl) ?_ | refine IfG.t ?_ | refine IfG.f ?_ | (refine IfG.p (fun hg => ?_) (fun hg => ?_) <;> (try (have hg' := hg; simp at hg'))) | (refine IfG.n (fun hg => ?_) (fun hg => ?_) <;> (try (have hg' := hg; simp at hg'))) | (refine OutOK.gateP (fun hg => ?_) (fun hg => ?_) <;> (try (have hg' := hg; simp at hg'))) | (refine OutOK.gateN (fun hg => ?_) (fun hg => ?_) <;> (try (have hg' := hg; simp at hg'))) | (refine IfG.g (fun hg => ?_) (fun hg => ?_) <;> (try (have hg' := hg; simp at hg'))) | (refine OutOK.gate (fun hg => ?_) (fun hg => ?_) <;> (try (have hg' := hg; simp at hg'))) | (refine OutOK.callF [] (by simp [*]; rfl) (by simp [*]; rfl) (by simp [*]; rfl) hb40 (by apply c1 <;> first | assumption | exact Hd.out (by assumption) | ((try (clear e0)); (try (clear e1)); (try (clear e2)); (try (clear e3)); (try (clear e4)); (try (clear e5)); (try (clear e6)); (try (clear e7)); (try (clear e8)); (try (clear e9)); (try (clear e10)); (try (clear e11)); omega)) ⟨by simp [*], by simp [*], by simp [*], by simp [*], by simp [*]⟩ (by simp [*]) (by simp [*]; rfl) ?_) | (refine OutOK.callF [] (by simp [*]; rfl) (by simp [*]; rfl) (by simp [*]; rfl) hb40 (by apply c2 <;> first | assumption | exact Hd.out (by assumption) | ((try (clear e0)); (try (clear e1)); (try (clear e2)); (try (clear e3)); (try (clear e4)); (try (clear e5)); (try (clear e6)); (try (clear e7)); (try (clear e8)); (try (clear e9)); (try (clear e10)); (try (clear e11)); omega)) ⟨by simp [*], by simp [*], by simp [*], by simp [*], by simp [*]⟩ (by simp [*]) (by simp [*]; rfl) ?_) | (refine OutOK.callF [] (by simp [*]; rfl) (by simp [*]; rfl) (by simp [*]; rfl) hb79 (by apply c3 <;> first | assumption | exact Hd.out (by assumption) | ((try (clear e0)); (try (clear e1)); (try (clear e2)); (try (clear e3)); (try (clear e4)); (try (clear e5)); (try (clear e6)); (try (clear e7)); (try (clear e8)); (try (clear e9)); (try (clear e10)); (try (clear e11)); omega)) ⟨by simp [*], by simp [*], by simp [*], by simp [*], by simp [*]⟩ (by simp [*]) (by simp [*]; rfl) ?_) | refine OutOK.run (by simp [*]; rfl) ?_ | refine AW.ret ?_ | refine AW.skip ?_ | refine AW.exit ?_ | refine fin_r ?_ | refine fin_n ?_ | refine AW.block ?_ | refine blockQ_n ?_ | refine blockQ_r ?_ | refine blockQ_e ?_ | refine blockQ_o rfl ?_)
  exact .inl ⟨rfl, hb.out, by simp [Try.f26]⟩
theorem w_ih3d (l : List Edt) (n : Int) (i k : Nat) (h : i < l.length) (hk : k < l.length) (hl : l.length ≤ 24) (hli : l[i].ck.length ≤ 3) (hlk : l[k].ck.length = l[i].ck.length) (p1 : precE l[k] l[i] = true) (p2 : precE l[i] l[k] = false) (p3 : noGr l[k].ck l[i].ck = true) : AW Try.prog 152 (cAt Try.f26 [2, 2, 2, 2, 2, 1, 2, 5, 7, 2, 2, 1, 5, 2, 2, 5, 7]) (mk [(0, .c (.sl true 5 (edts true l))), (1, .c (.sc (.int .i64 n))), (13, .pt 13000 []  0), (123, .c (.sl true 5 (edts true l))), (124, .c (.sc (.int .i64 (l.length : Int)))), (125, .c (.sc (.int .i64 (i : Int)))), (129, .c (.sl true 5 (edts true l))), (130, .c (.sc (.int .i64 (l.length : Int)))), (131, .c (.sc (.int .i64 (k : Int))))] [(13000, .bx (edtC true l[i]))]) (Ih3Q l n i k h hk) := by
  have e1 : wrap64 ((k : Int) + 1) = ((k + 1 : Nat) : Int) := by rw [w64 (by omega) (by omega)]; omega
  have c1 := c_impl_Precedes l[k] l[i] (by omega)
  rw [p1] at c1
  have c2 := c_impl_Precedes l[i] l[k] (by omega)
  rw [p2] at c2
  have c3 := c_impl_noGreater l[k].ck l[i].ck (by omega) (by omega)
  rw [p3] at c3
  have hb : Hd ((precE l[k] l[i] = true → precE l[i] l[k] = false ∧ noGr l[k].ck l[i].ck = true)) := fun _ => ⟨p2, p3⟩
  clear p1 p2 p3 hlk hli
  repeat' (first | with_reducible refine OutOK.done ?_ | refine thenQ_n ?_ | refine thenQ_r ?_ | refine thenQ_e ?_ | refine AW.seq ?_ | refine AW.dreg tok mixed [15, 25, 26, 27, 28]  [(0, false), (2, false), (3, false), (1, false), (4, false), (5, false), (6, false), (7, false), (8, false), (9, false), (10, false), (11, false), (12, false), (13, false), (14, false), (15, true), (16, false), (17, false), (18, false), (19, false), (20, false), (21, false), (23, false), (24, false), (22, false), (25, true), (26, true), (27, true), (28, true), (29, false), (30, false)] (by decide +kernel) rfl (by simp [*]; rfl) ?_ | refine AW.dreg tok mixed [9, 13]  [(0, false), (3, false), (1, false), (2, false), (4, false), (5, false), (6, false), (8, false), (12, false), (7, false), (9, true), (10, false), (11, false), (13, true), (14, false), (15, false), (16, false), (17, false), (18, false), (19, false), (20, false), (21, false), (22, false), (23, false), (24, false), (25, false), (26, false), (27, false)] (by decide +kernel) rfl (by simp [*]; rfl) ?_ | refine AW.reg tok (by simp [*]; rfl) ?_ | refine AW.ifB (by simp [*]; rfl) ?_ | refine IfG.t ?_ | refine IfG.f ?_ | (refine IfG.p (fun hg => ?_) (fun hg => ?_) <;> (try (have hg' := hg; simp at hg'))) | (refine IfG.n (fun hg => ?_) (fun hg => ?_) <;> (try (have hg' := hg; simp at hg'))) | (refine OutOK.gateP (fun hg => ?_) (fun hg => ?_) <;> (try (have hg' := hg; simp at hg'))) | (refine OutOK.gateN (fun hg => ?_) (fun hg => ?_) <;> (try (have hg' := hg; simp at hg'))) | (refine IfG.g (fun hg => ?_) (fun hg => ?_) <;> (try (have hg' := hg; simp at hg'))) | (refine OutOK.gate (fun hg => ?_) (fun hg => ?_) <;> (try (have hg' := hg; simp at hg'))) | (refine OutOK.callF [] (by simp [*]; rfl) (by simp [*]; rfl) (by simp [*]; rfl) hb40 (by apply c1 <;> first | assumption | exact Hd.out (by assumption) | ((try (clear e0)); (try (clear e1)); (try (clear e2)); (try (clear e3)); (try (clear e4)); (try (clear e5)); (try (clear e6)); (try (clear e7)); (try (clear e8)); (try (clear e9)); (try (clear e10)); (try (clear e11)); omega)) ⟨by simp [*], by simp [*], by simp [*], by simp [*], by simp [*]⟩ (by simp [*]) (by simp [*]; rfl) ?_) | (refine OutOK.callF [] (by simp [*]; rfl) (by simp [*]; rfl) (by simp [*]; rfl) hb40 (by apply c2 <;> first | assumption | exact Hd.out (by assumption) | ((try (clear e0)); (try (clear e1)); (try (clear e2)); (try (clear e3)); (try (clear e4)); (try (clear e5)); (try (clear e6)); (try (clear e7)); (try (clear e8)); (try (clear e9)); (try (clear e10)); (try (clear e11)); omega)) ⟨by simp [*], by simp [*], by simp [*], by simp [*], by simp [*]⟩ (by simp [*]) (by simp [*]; rfl) ?_) | (refine OutOK.callF [] (by simp [*]; rfl) (by simp [*]; rfl) (by simp [*]; rfl) hb79 (by apply c3 <;> first | assumption | exact Hd.out (by assumption) | ((try (clear e0)); (try (clear e1)); (try (clear e2)); (try (clear e3)); (try (clear e4)); (try (clear e5)); (try (clear e6)); (try (clear e7)); (try (clear e8)); (try (clear e9)); (try (clear e10)); (try (clear e11)); omega)) ⟨by simp [*], by simp [*], by simp [*], by simp [*], by simp [*]⟩ (by simp [*]) (by simp [*]; rfl) ?_) | refine OutOK.run (by simp [*]; rfl) ?_ | refine AW.ret ?_ | refine AW.skip ?_ | refine AW.exit ?_ | refine fin_r ?_ | refine fin_n ?_ | refine AW.block ?_ | refine blockQ_n ?_ | refine blockQ_r ?_ | refine blockQ_e ?_ | refine blockQ_o rfl ?_)
  exact .inr ⟨rfl, hb.out, by simp, by simp, by simp⟩
theorem w_ih3 (l : List Edt) (n : Int) (i k : Nat) (h : i < l.length) (hk : k < l.length) (hl : l.length ≤ 24) (hli : l[i].ck.length ≤ 3) (hlk : l[k].ck.length = l[i].ck.length) : AW Try.prog 152 (cAt Try.f26 [2, 2, 2, 2, 2, 1, 2, 5, 7, 2, 2, 1, 5, 2, 2, 5, 7]) (mk [(0, .c (.sl true 5 (edts true l))), (1, .c (.sc (.int .i64 n))), (13, .pt 13000 []  0), (123, .c (.sl true 5 (edts true l))), (124, .c (.sc (.int .i64 (l.length : Int)))), (125, .c (.sc (.int .i64 (i : Int)))), (129, .c (.sl true 5 (edts true l))), (130, .c (.sc (.int .i64 (l.length : Int)))), (131, .c (.sc (.int .i64 (k : Int))))] [(13000, .bx (edtC true l[i]))]) (Ih3Q l n i k h hk) := by
  cases p1 : precE l[k] l[i] with
  | false => exact w_ih3a l n i k h hk hl hli hlk p1
  | true =>
    cases p2 : precE l[i] l[k] with
    | true => exact w_ih3b l n i k h hk hl hli hlk p1 p2
    | false =>
      cases p3 : noGr l[k].ck l[i].ck with
      | false => exact w_ih3c l n i k h hk hl hli hlk p1 p2 p3
      | true => exact w_ih3d l n i k h hk hl hli hlk p1 p2 p3
theorem c_impl_IsValidHistory (l : List Edt) (n : Int) (h : l.length ≤ 4611686018427387904) (hW : ∀ e ∈ l, EdtW e) : ACall Try.prog 26 [.v (.sl true 5 (edts true l)), int n] [.x, .x] [boo (hist l n)] := by
  have hW' : Hd _ := hW
  clear hW
  cases hR : inR 1 3 n with
  | false =>
    have hb : hist l n = false := hist_no (fun hh => by have := hh.nn; rw [hR] at this; cases this)
    rw [hb]
    clear hb
    refine ACall.of (N := 152) tok Try.func26 rfl rfl rfl (by simp) ?_
    repeat' (first | with_reducible refine OutOK.done ?_ | refine thenQ_n ?_ | refine thenQ_r ?_ | refine thenQ_e ?_ | refine AW.seq ?_ | refine AW.dreg tok mixed [15, 25, 26, 27, 28]  [(0, false), (2, false), (3, false), (1, false), (4, false), (5, false), (6, false), (7, false), (8, false), (9, false), (10, false), (11, false), (12, false), (13, false), (14, false), (15, true), (16, false), (17, false), (18, false), (19, false), (20, false), (21, false), (23, false), (24, false), (22, false), (25, true), (26, true), (27, true), (28, true), (29, false), (30, false)] (by decide +kernel) rfl (by simp [*]; rfl) ?_ | refine AW.dreg tok mixed [9, 13]  [(0, false), (3, false), (1, false), (2, false), (4, false), (5, false), (6, false), (8, false), (12, false), (7, false), (9, true), (10, false), (11, false), (13, true), (14, false), (15, false), (16, false), (17, false), (18, false), (19, false), (20, false), (21, false), (22, false), (23, false), (24, false), (25, false), (26, false), (27, false)] (by decide +kernel) rfl (by simp [*]; rfl) ?_ | refine AW.reg tok (by simp [*]; rfl) ?_ | refine AW.ifB (by simp [*]; rfl) ?_ | refine IfG.t ?_ | refine IfG.f ?_ | (refine IfG.p (fun hg => ?_) (fun hg => ?_) <;> (try (have hg' := hg; simp at hg'))) | (refine IfG.n (fun hg => ?_) (fun hg => ?_) <;> (try (have hg' := hg; simp at hg'))) | (refine OutOK.gateP (fun hg => ?_) (fun hg => ?_) <;> (try (have hg' := hg; simp at hg'))) | (refine OutOK.gateN (fun hg => ?_) (fun hg => ?_) <;> (try (have hg' := hg; simp at hg'))) | (refine IfG.g (fun hg => ?_) (fun hg => ?_) <;> (try (have hg' := hg; simp at hg'))) | (refine OutOK.gate (fun hg => ?_) (fun hg => ?_) <;> (try (have hg' := hg; simp at hg'))) | (refine OutOK.callF [] (by simp [*]; rfl) (by simp [*]; rfl) (by simp [*]; rfl) hb59 (by apply c_impl_within <;> first | assumption | exact Hd.out (by assumption) | ((try (clear e0)); (try (clear e1)); (try (clear e2)); (try (clear e3)); (try (clear e4)); (try (clear e5)); (try (clear e6)); (try (clear e7)); (try (clear e8)); (try (clear e9)); (try (clear e10)); (try (clear e11)); omega)) ⟨by simp [*], by simp [*], by simp [*], by simp [*], by simp [*]⟩ (by simp [*]) (by simp [*]; rfl) ?_) | refine OutOK.run (by simp [*]; rfl) ?_ | refine AW.ret ?_ | refine AW.skip ?_ | refine AW.exit ?_ | refine fin_r ?_ | refine fin_n ?_ | refine AW.block ?_ | refine blockQ_n ?_ | refine blockQ_r ?_ | refine blockQ_e ?_ | refine blockQ_o rfl ?_)
    simp [Try.f26]
  | true =>
  rcases Nat.lt_or_ge 24 l.length with h24 | h24
  · have hb : hist l n = false := hist_no (fun hh => by have := hh.len; omega)
    rw [hb]
    have h24' : (24 : Int) < l.length := by omega
    clear hb
    refine ACall.of (N := 152) tok Try.func26 rfl rfl rfl (by simp) ?_
    repeat' (first | with_reducible refine OutOK.done ?_ | refine thenQ_n ?_ | refine thenQ_r ?_ | refine thenQ_e ?_ | refine AW.seq ?_ | refine AW.dreg tok mixed [15, 25, 26, 27, 28]  [(0, false), (2, false), (3, false), (1, false), (4, false), (5, false), (6, false), (7, false), (8, false), (9, false), (10, false), (11, false), (12, false), (13, false), (14, false), (15, true), (16, false), (17, false), (18, false), (19, false), (20, false), (21, false), (23, false), (24, false), (22, false), (25, true), (26, true), (27, true), (28, true), (29, false), (30, false)] (by decide +kernel) rfl (by simp [*]; rfl) ?_ | refine AW.dreg tok mixed [9, 13]  [(0, false), (3, false), (1, false), (2, false), (4, false), (5, false), (6, false), (8, false), (12, false), (7, false), (9, true), (10, false), (11, false), (13, true), (14, false), (15, false), (16, false), (17, false), (18, false), (19, false), (20, false), (21, false), (22, false), (23, false), (24, false), (25, false), (26, false), (27, false)] (by decide +kernel) rfl (by simp [*]; rfl) ?_ | refine AW.reg tok (by simp [*]; rfl) ?_ | refine AW.ifB (by simp [*]; rfl) ?_ | refine IfG.t ?_ | refine IfG.f ?_ | (refine IfG.p (fun hg => ?_) (fun hg => ?_) <;> (try (have hg' := hg; simp at hg'))) | (refine IfG.n (fun hg => ?_) (fun hg => ?_) <;> (try (have hg' := hg; simp at hg'))) | (refine OutOK.gateP (fun hg => ?_) (fun hg => ?_) <;> (try (have hg' := hg; simp at hg'))) | (refine OutOK.gateN (fun hg => ?_) (fun hg => ?_) <;> (try (have hg' := hg; simp at hg'))) | (refine IfG.g (fun hg => ?_) (fun hg => ?_) <;> (try (have hg' := hg; simp at hg'))) | (refine OutOK.gate (fun hg => ?_) (fun hg => ?_) <;> (try (have hg' := hg; simp at hg'))) | (refine OutOK.callF [] (by simp [*]; rfl) (by simp [*]; rfl) (by simp [*]; rfl) hb59 (by apply c_impl_within <;> first | assumption | exact Hd.out (by assumption) | ((try (clear e0)); (try (clear e1)); (try (clear e2)); (try (clear e3)); (try (clear e4)); (try (clear e5)); (try (clear e6)); (try (clear e7)); (try (clear e8)); (try (clear e9)); (try (clear e10)); (try (clear e11)); omega)) ⟨by simp [*], by simp [*], by simp [*], by simp [*], by simp [*]⟩ (by simp [*]) (by simp [*]; rfl) ?_) | refine OutOK.run (by simp [*]; rfl) ?_ | refine AW.ret ?_ | refine AW.skip ?_ | refine AW.exit ?_ | refine fin_r ?_ | refine fin_n ?_ | refine AW.block ?_ | refine blockQ_n ?_ | refine blockQ_r ?_ | refine blockQ_e ?_ | refine blockQ_o rfl ?_)
    simp [Try.f26]
  have h24' : ¬ (24 : Int) < l.length := by omega
  obtain ⟨n1, n3⟩ := inR_iff.1 hR
  have no : Hd (¬ Hist l n → hist l n = false) := fun hh => hist_no hh
  have yes : Hd (Hist l n → hist l n = true) := fun hh => hist_iff'.2 hh
  generalize hist l n = B at *
  have b1 : n * 8 ≤ 140737488355328 := by omega
  have b2 : n ≤ 4611686018427387904 := by omega
  have hn0 : 0 ≤ n := by omega
  have hz : Hd (cts l n 0 = List.replicate n.toNat 0) := cts_zero l n
  refine ACall.of (N := 152) tok Try.func26 rfl rfl rfl (by simp) ?_
  repeat' (first | with_reducible refine OutOK.done ?_ | refine thenQ_n ?_ | refine thenQ_r ?_ | refine thenQ_e ?_ | refine AW.seq ?_ | refine AW.dreg tok mixed [15, 25, 26, 27, 28]  [(0, false), (2, false), (3, false), (1, false), (4, false), (5, false), (6, false), (7, false), (8, false), (9, false), (10, false), (11, false), (12, false), (13, false), (14, false), (15, true), (16, false), (17, false), (18, false), (19, false), (20, false), (21, false), (23, false), (24, false), (22, false), (25, true), (26, true), (27, true), (28, true), (29, false), (30, false)] (by decide +kernel) rfl (by simp [*]; rfl) ?_ | refine AW.dreg tok mixed [9, 13]  [(0, false), (3, false), (1, false), (2, false), (4, false), (5, false), (6, false), (8, false), (12, false), (7, false), (9, true), (10, false), (11, false), (13, true), (14, false), (15, false), (16, false), (17, false), (18, false), (19, false), (20, false), (21, false), (22, false), (23, false), (24, false), (25, false), (26, false), (27, false)] (by decide +kernel) rfl (by simp [*]; rfl) ?_ | refine AW.reg tok (by simp [*]; rfl) ?_ | refine AW.ifB (by simp [*]; rfl) ?_ | refine IfG.t ?_ | refine IfG.f ?_ | (refine IfG.p (fun hg => ?_) (fun hg => ?_) <;> (try (have hg' := hg; simp at hg'))) | (refine IfG.n (fun hg => ?_) (fun hg => ?_) <;> (try (have hg' := hg; simp at hg'))) | (refine OutOK.gateP (fun hg => ?_) (fun hg => ?_) <;> (try (have hg' := hg; simp at hg'))) | (refine OutOK.gateN (fun hg => ?_) (fun hg => ?_) <;> (try (have hg' := hg; simp at hg'))) | (refine IfG.g (fun hg => ?_) (fun hg => ?_) <;> (try (have hg' := hg; simp at hg'))) | (refine OutOK.gate (fun hg => ?_) (fun hg => ?_) <;> (try (have hg' := hg; simp at hg'))) | (refine OutOK.callF [] (by simp [*]; rfl) (by simp [*]; rfl) (by simp [*]; rfl) hb59 (by apply c_impl_within <;> first | assumption | exact Hd.out (by assumption) | ((try (clear e0)); (try (clear e1)); (try (clear e2)); (try (clear e3)); (try (clear e4)); (try (clear e5)); (try (clear e6)); (try (clear e7)); (try (clear e8)); (try (clear e9)); (try (clear e10)); (try (clear e11)); omega)) ⟨by simp [*], by simp [*], by simp [*], by simp [*], by simp [*]⟩ (by simp [*]) (by simp [*]; rfl) ?_) | refine OutOK.run (by simp [*]; rfl) ?_ | refine AW.ret ?_ | refine AW.skip ?_ | refine AW.exit ?_ | refine fin_r ?_ | refine fin_n ?_ | refine AW.block ?_ | refine blockQ_n ?_ | refine blockQ_r ?_ | refine blockQ_e ?_ | refine blockQ_o rfl ?_)
  refine AW.loopL (α := Nat) (fun i => i ≤ l.length ∧ Hd (∀ j (hj : j < l.length), j < i → St1 l n j hj ∧ Fl l[j] n)) (fun i => [(0, .c (.sl true 5 (edts true l))), (1, .c (.sc (.int .i64 n))), (5, .rf 25000 []), (26, .c (.sl true 5 (edts true l))), (27, .c (.sc (.int .i64 (l.length : Int)))), (28, .c (.sc (.int .i64 (i : Int))))]) (fun i => [(25000, .sv (.sl false 1 (ints (cts l n i))))]) (fun i => l.length - i) 0 ⟨Nat.zero_le _, fun j _ hj => by omega⟩ ⟨by simp, by simp [hz.out], by simp⟩ ?_
  rintro i ⟨hi, hs⟩
  rcases Nat.lt_or_ge i l.length with hil | hil
  · refine (w_ih1 l n i hil h24 n1 n3 (hW'.out _ (List.getElem_mem hil))).mono fun e st hq => ?_
    rcases hq with ⟨rfl, hk, hq⟩ | ⟨rfl, hk, hq⟩
    · have hb := no.out (fun hh => hk ⟨hh.st i hil, hh.fl i hil⟩)
      subst hb
      exact ⟨.inr rfl, hq⟩
    · refine ⟨i + 1, ⟨hil, fun j hj hji => ?_⟩, hq, by omega⟩
      rcases Nat.lt_succ_iff_lt_or_eq.1 hji with h2 | rfl
      · exact hs.out j hj h2
      · exact hk
  have hii : i = l.length := by omega
  subst hii
  clear hz
  repeat' (first | with_reducible refine AW.stopB 2 ?_ | with_reducible refine OutOK.done ?_ | refine thenQ_n ?_ | refine thenQ_r ?_ | refine thenQ_e ?_ | refine AW.seq ?_ | refine AW.dreg tok mixed [15, 25, 26, 27, 28]  [(0, false), (2, false), (3, false), (1, false), (4, false), (5, false), (6, false), (7, false), (8, false), (9, false), (10, false), (11, false), (12, false), (13, false), (14, false), (15, true), (16, false), (17, false), (18, false), (19, false), (20, false), (21, false), (23, false), (24, false), (22, false), (25, true), (26, true), (27, true), (28, true), (29, false), (30, false)] (by decide +kernel) rfl (by simp [*]; rfl) ?_ | refine AW.dreg tok mixed [9, 13]  [(0, false), (3, false), (1, false), (2, false), (4, false), (5, false), (6, false), (8, false), (12, false), (7, false), (9, true), (10, false), (11, false), (13, true), (14, false), (15, false), (16, false), (17, false), (18, false), (19, false), (20, false), (21, false), (22, false), (23, false), (24, false), (25, false), (26, false), (27, false)] (by decide +kernel) rfl (by simp [*]; rfl) ?_ | refine AW.reg tok (by simp [*]; rfl) ?_ | refine AW.ifB (by simp [*]; rfl) ?_ | refine IfG.t ?_ | refine IfG.f ?_ | (refine IfG.p (fun hg => ?_) (fun hg => ?_) <;> (try (have hg' := hg; simp at hg'))) | (refine IfG.n (fun hg => ?_) (fun hg => ?_) <;> (try (have hg' := hg; simp at hg'))) | (refine OutOK.gateP (fun hg => ?_) (fun hg => ?_) <;> (try (have hg' := hg; simp at hg'))) | (refine OutOK.gateN (fun hg => ?_) (fun hg => ?_) <;> (try (have hg' := hg; simp at hg'))) | (refine IfG.g (fun hg => ?_) (fun hg => ?_) <;> (try (have hg' := hg; simp at hg'))) | (refine OutOK.gate (fun hg => ?_) (fun hg => ?_) <;> (try (have hg' := hg; simp at hg'))) | refine OutOK.run (by simp [*]; rfl) ?_ | refine AW.ret ?_ | refine AW.skip ?_ | refine AW.exit ?_ | refine fin_r ?_ | refine fin_n ?_ | refine AW.block ?_ | refine blockQ_n ?_ | refine blockQ_r ?_ | refine blockQ_e ?_ | refine blockQ_o rfl ?_)
  refine ⟨AW.forget [(0, .c (.sl true 5 (edts true l))), (1, .c (.sc (.int .i64 n))), (5, .rf 25000 []), (100, .c (.sl true 5 (edts true l))), (101, .c (.sc (.int .i64 (l.length : Int)))), (102, .c (.sc (.int .i64 0)))] [(25000, .sv (.sl false 1 (ints (cts l n l.length))))] ⟨by simp, by simp, by simp⟩ ?_⟩
  have hlen : ∀ a (ha : a < l.length), (l[a].ck.length : Int) = n := fun a ha => (hs.out a ha ha).2.1
  repeat' (first | with_reducible refine OutOK.done ?_ | refine thenQ_n ?_ | refine thenQ_r ?_ | refine thenQ_e ?_ | refine AW.seq ?_ | refine AW.dreg tok mixed [15, 25, 26, 27, 28]  [(0, false), (2, false), (3, false), (1, false), (4, false), (5, false), (6, false), (7, false), (8, false), (9, false), (10, false), (11, false), (12, false), (13, false), (14, false), (15, true), (16, false), (17, false), (18, false), (19, false), (20, false), (21, false), (23, false), (24, false), (22, false), (25, true), (26, true), (27, true), (28, true), (29, false), (30, false)] (by decide +kernel) rfl (by simp [*]; rfl) ?_ | refine AW.dreg tok mixed [9, 13]  [(0, false), (3, false), (1, false), (2, false), (4, false), (5, false), (6, false), (8, false), (12, false), (7, false), (9, true), (10, false), (11, false), (13, true), (14, false), (15, false), (16, false), (17, false), (18, false), (19, false), (20, false), (21, false), (22, false), (23, false), (24, false), (25, false), (26, false), (27, false)] (by decide +kernel) rfl (by simp [*]; rfl) ?_ | refine AW.reg tok (by simp [*]; rfl) ?_ | refine AW.ifB (by simp [*]; rfl) ?_ | refine IfG.t ?_ | refine IfG.f ?_ | (refine IfG.p (fun hg => ?_) (fun hg => ?_) <;> (try (have hg' := hg; simp at hg'))) | (refine IfG.n (fun hg => ?_) (fun hg => ?_) <;> (try (have hg' := hg; simp at hg'))) | (refine OutOK.gateP (fun hg => ?_) (fun hg => ?_) <;> (try (have hg' := hg; simp at hg'))) | (refine OutOK.gateN (fun hg => ?_) (fun hg => ?_) <;> (try (have hg' := hg; simp at hg'))) | (refine IfG.g (fun hg => ?_) (fun hg => ?_) <;> (try (have hg' := hg; simp at hg'))) | (refine OutOK.gate (fun hg => ?_) (fun hg => ?_) <;> (try (have hg' := hg; simp at hg'))) | refine OutOK.run (by simp [*]; rfl) ?_ | refine AW.ret ?_ | refine AW.skip ?_ | refine AW.exit ?_ | refine fin_r ?_ | refine fin_n ?_ | refine AW.block ?_ | refine blockQ_n ?_ | refine blockQ_r ?_ | refine blockQ_e ?_ | refine blockQ_o rfl ?_)
  refine AW.loopL (α := Nat) (fun i => i ≤ l.length ∧ Hd (∀ j (hj : j < l.length), j < i → ∀ t < l[j].ck.length, inR 0 (cntE l (t : Int)) (ckAt l[j].ck (t : Int)) = true)) (fun i => [(0, .c (.sl true 5 (edts true l))), (1, .c (.sc (.int .i64 n))), (5, .rf 25000 []), (100, .c (.sl true 5 (edts true l))), (101, .c (.sc (.int .i64 (l.length : Int)))), (102, .c (.sc (.int .i64 (i : Int))))]) (fun i => [(25000, .sv (.sl false 1 (ints (cts l n l.length))))]) (fun i => l.length - i) 0 ⟨Nat.zero_le _, fun j _ hj => by omega⟩ ⟨by simp, by simp, by simp⟩ ?_
  rintro i ⟨hi, hs2⟩
  rcases Nat.lt_or_ge i l.length with hil | hil
  · refine (w_ih2 l n i hil h24 n1 n3 (hlen i hil)).mono fun e st hq => ?_
    rcases hq with ⟨rfl, hk, hq⟩ | ⟨rfl, hk, hq⟩
    · have hb := no.out (fun hh => hk (hh.ck i hil))
      subst hb
      exact ⟨.inr rfl, hq⟩
    · refine ⟨i + 1, ⟨hil, fun j hj hji => ?_⟩, hq, by omega⟩
      rcases Nat.lt_succ_iff_lt_or_eq.1 hji with h2 | rfl
      · exact hs2.out j hj h2
      · exact hk
  have hii : i = l.length := by omega
  subst hii
  have hlen' : Hd _ := hlen
  clear hlen
  repeat' (first | with_reducible refine OutOK.done ?_ | refine thenQ_n ?_ | refine thenQ_r ?_ | refine thenQ_e ?_ | refine AW.seq ?_ | refine AW.dreg tok mixed [15, 25, 26, 27, 28]  [(0, false), (2, false), (3, false), (1, false), (4, false), (5, false), (6, false), (7, false), (8, false), (9, false), (10, false), (11, false), (12, false), (13, false), (14, false), (15, true), (16, false), (17, false), (18, false), (19, false), (20, false), (21, false), (23, false), (24, false), (22, false), (25, true), (26, true), (27, true), (28, true), (29, false), (30, false)] (by decide +kernel) rfl (by simp [*]; rfl) ?_ | refine AW.dreg tok mixed [9, 13]  [(0, false), (3, false), (1, false), (2, false), (4, false), (5, false), (6, false), (8, false), (12, false), (7, false), (9, true), (10, false), (11, false), (13, true), (14, false), (15, false), (16, false), (17, false), (18, false), (19, false), (20, false), (21, false), (22, false), (23, false), (24, false), (25, false), (26, false), (27, false)] (by decide +kernel) rfl (by simp [*]; rfl) ?_ | refine AW.reg tok (by simp [*]; rfl) ?_ | refine AW.ifB (by simp [*]; rfl) ?_ | refine IfG.t ?_ | refine IfG.f ?_ | (refine IfG.p (fun hg => ?_) (fun hg => ?_) <;> (try (have hg' := hg; simp at hg'))) | (refine IfG.n (fun hg => ?_) (fun hg => ?_) <;> (try (have hg' := hg; simp at hg'))) | (refine OutOK.gateP (fun hg => ?_) (fun hg => ?_) <;> (try (have hg' := hg; simp at hg'))) | (refine OutOK.gateN (fun hg => ?_) (fun hg => ?_) <;> (try (have hg' := hg; simp at hg'))) | (refine IfG.g (fun hg => ?_) (fun hg => ?_) <;> (try (have hg' := hg; simp at hg'))) | (refine OutOK.gate (fun hg => ?_) (fun hg => ?_) <;> (try (have hg' := hg; simp at hg'))) | refine OutOK.run (by simp [*]; rfl) ?_ | refine AW.ret ?_ | refine AW.skip ?_ | refine AW.exit ?_ | refine fin_r ?_ | refine fin_n ?_ | refine AW.block ?_ | refine blockQ_n ?_ | refine blockQ_r ?_ | refine blockQ_e ?_ | refine blockQ_o rfl ?_)
  refine AW.loopL (α := Nat) (fun i => i ≤ l.length ∧ Hd (∀ j (hj : j < l.length), j < i → ∀ k (hk : k < l.length), precE l[k] l[j] = true → precE l[j] l[k] = false ∧ noGr l[k].ck l[j].ck = true)) (fun i => [(0, .c (.sl true 5 (edts true l))), (1, .c (.sc (.int .i64 n))), (123, .c (.sl true 5 (edts true l))), (124, .c (.sc (.int .i64 (l.length : Int)))), (125, .c (.sc (.int .i64 (i : Int))))]) (fun i => []) (fun i => l.length - i) 0 ⟨Nat.zero_le _, fun j _ hj => by omega⟩ ⟨by simp, by simp, by simp⟩ ?_
  rintro i ⟨hi, hs3⟩
  rcases Nat.lt_or_ge i l.length with hil | hil
  · have e1 : wrap64 ((i : Int) + 1) = ((i + 1 : Nat) : Int) := by rw [w64 (by omega) (by omega)]; omega
    have hli : l[i].ck.length ≤ 3 := by have := hlen'.out i hil; omega
    repeat' (first | with_reducible refine OutOK.done ?_ | refine thenQ_n ?_ | refine thenQ_r ?_ | refine thenQ_e ?_ | refine AW.seq ?_ | refine AW.dreg tok mixed [15, 25, 26, 27, 28]  [(0, false), (2, false), (3, false), (1, false), (4, false), (5, false), (6, false), (7, false), (8, false), (9, false), (10, false), (11, false), (12, false), (13, false), (14, false), (15, true), (16, false), (17, false), (18, false), (19, false), (20, false), (21, false), (23, false), (24, false), (22, false), (25, true), (26, true), (27, true), (28, true), (29, false), (30, false)] (by decide +kernel) rfl (by simp [*]; rfl) ?_ | refine AW.dreg tok mixed [9, 13]  [(0, false), (3, false), (1, false), (2, false), (4, false), (5, false), (6, false), (8, false), (12, false), (7, false), (9, true), (10, false), (11, false), (13, true), (14, false), (15, false), (16, false), (17, false), (18, false), (19, false), (20, false), (21, false), (22, false), (23, false), (24, false), (25, false), (26, false), (27, false)] (by decide +kernel) rfl (by simp [*]; rfl) ?_ | refine AW.reg tok (by simp [*]; rfl) ?_ | refine AW.ifB (by simp [*]; rfl) ?_ | refine IfG.t ?_ | refine IfG.f ?_ | (refine IfG.p (fun hg => ?_) (fun hg => ?_) <;> (try (have hg' := hg; simp at hg'))) | (refine IfG.n (fun hg => ?_) (fun hg => ?_) <;> (try (have hg' := hg; simp at hg'))) | (refine OutOK.gateP (fun hg => ?_) (fun hg => ?_) <;> (try (have hg' := hg; simp at hg'))) | (refine OutOK.gateN (fun hg => ?_) (fun hg => ?_) <;> (try (have hg' := hg; simp at hg'))) | (refine IfG.g (fun hg => ?_) (fun hg => ?_) <;> (try (have hg' := hg; simp at hg'))) | (refine OutOK.gate (fun hg => ?_) (fun hg => ?_) <;> (try (have hg' := hg; simp at hg'))) | refine OutOK.run (by simp [*]; rfl) ?_ | refine AW.ret ?_ | refine AW.skip ?_ | refine AW.exit ?_ | refine fin_r ?_ | refine fin_n ?_ | refine AW.block ?_ | refine blockQ_n ?_ | refine blockQ_r ?_ | refine blockQ_e ?_ | refine blockQ_o rfl ?_)
    refine AW.loopL (α := Nat) (fun k => k ≤ l.length ∧ Hd (∀ j (hj : j < l.length), j < k → precE l[j] l[i] = true → precE l[i] l[j] = false ∧ noGr l[j].ck l[i].ck = true)) (fun k => [(0, .c (.sl true 5 (edts true l))), (1, .c (.sc (.int .i64 n))), (13, .pt 13000 []  0), (123, .c (.sl true 5 (edts true l))), (124, .c (.sc (.int .i64 (l.length : Int)))), (125, .c (.sc (.int .i64 (i : Int)))), (129, .c (.sl true 5 (edts true l))), (130, .c (.sc (.int .i64 (l.length : Int)))), (131, .c (.sc (.int .i64 (k : Int))))]) (fun _ => [(13000, .bx (edtC true l[i]))]) (fun k => l.length - k) 0 ⟨Nat.zero_le _, fun j _ hj => by omega⟩ ⟨by simp, by simp, by simp⟩ ?_
    rintro k ⟨hk, hsk⟩
    rcases Nat.lt_or_ge k l.length with hkl | hkl
    · refine (w_ih3 l n i k hil hkl h24 hli (by have := hlen'.out i hil; have := hlen'.out k hkl; omega)).mono fun e st hq => ?_
      rcases hq with ⟨rfl, hk2, hq⟩ | ⟨rfl, hk2, hq⟩
      · have hb := no.out (fun hh => hk2 (hh.pr i hil k hkl))
        subst hb
        exact ⟨.inr rfl, hq⟩
      · refine ⟨k + 1, ⟨hkl, fun j hj hji => ?_⟩, hq, by omega⟩
        rcases Nat.lt_succ_iff_lt_or_eq.1 hji with h2 | rfl
        · exact hsk.out j hj h2
        · exact hk2
    · have hkn : ¬ k < l.length := by omega
      have hs4 : Hd (∀ j (hj : j < l.length), j < i + 1 → ∀ k (hk : k < l.length), precE l[k] l[j] = true → precE l[j] l[k] = false ∧ noGr l[k].ck l[j].ck = true) := by
        intro j hj hji
        rcases Nat.lt_succ_iff_lt_or_eq.1 hji with h2 | rfl
        · exact hs3.out j hj h2
        · exact fun q hq => hsk.out q hq (by omega)
      clear no yes
      repeat' (first | with_reducible refine OutOK.done ?_ | refine thenQ_n ?_ | refine thenQ_r ?_ | refine thenQ_e ?_ | refine AW.seq ?_ | refine AW.dreg tok mixed [15, 25, 26, 27, 28]  [(0, false), (2, false), (3, false), (1, false), (4, false), (5, false), (6, false), (7, false), (8, false), (9, false), (10, false), (11, false), (12, false), (13, false), (14, false), (15, true), (16, false), (17, false), (18, false), (19, false), (20, false), (21, false), (23, false), (24, false), (22, false), (25, true), (26, true), (27, true), (28, true), (29, false), (30, false)] (by decide +kernel) rfl (by simp [*]; rfl) ?_ | refine AW.dreg tok mixed [9, 13]  [(0, false), (3, false), (1, false), (2, false), (4, false), (5, false), (6, false), (8, false), (12, false), (7, false), (9, true), (10, false), (11, false), (13, true), (14, false), (15, false), (16, false), (17, false), (18, false), (19, false), (20, false), (21, false), (22, false), (23, false), (24, false), (25, false), (26, false), (27, false)] (by decide +kernel) rfl (by simp [*]; rfl) ?_ | refine AW.reg tok (by simp [*]; rfl) ?_ | refine AW.ifB (by simp [*]; rfl) ?_ | refine IfG.t ?_ | refine IfG.f ?_ | (refine IfG.p (fun hg => ?_) (fun hg => ?_) <;> (try (have hg' := hg; simp at hg'))) | (refine IfG.n (fun hg => ?_) (fun hg => ?_) <;> (try (have hg' := hg; simp at hg'))) | (refine OutOK.gateP (fun hg => ?_) (fun hg => ?_) <;> (try (have hg' := hg; simp at hg'))) | (refine OutOK.gateN (fun hg => ?_) (fun hg => ?_) <;> (try (have hg' := hg; simp at hg'))) | (refine IfG.g (fun hg => ?_) (fun hg => ?_) <;> (try (have hg' := hg; simp at hg'))) | (refine OutOK.gate (fun hg => ?_) (fun hg => ?_) <;> (try (have hg' := hg; simp at hg'))) | refine OutOK.run (by simp [*]; rfl) ?_ | refine AW.ret ?_ | refine AW.skip ?_ | refine AW.exit ?_ | refine fin_r ?_ | refine fin_n ?_ | refine AW.block ?_ | refine blockQ_n ?_ | refine blockQ_r ?_ | refine blockQ_e ?_ | refine blockQ_o rfl ?_)
      exact ⟨i + 1, ⟨hil, hs4⟩, ⟨by simp, by simp, by simp⟩, by ((try (clear e0)); (try (clear e1)); (try (clear e2)); (try (clear e3)); (try (clear e4)); (try (clear e5)); (try (clear e6)); (try (clear e7)); (try (clear e8)); (try (clear e9)); (try (clear e10)); (try (clear e11)); omega)⟩
  · have hin : ¬ i < l.length := by omega
    have hb : B = true := yes.out ⟨hR, h24, fun j hj => (hs.out j hj hj).1, fun j hj => (hs.out j hj hj).2, fun j hj => hs2.out j hj hj, fun j hj => hs3.out j hj (by omega)⟩
    subst hb
    clear no yes
    repeat' (first | with_reducible refine OutOK.done ?_ | refine thenQ_n ?_ | refine thenQ_r ?_ | refine thenQ_e ?_ | refine AW.seq ?_ | refine AW.dreg tok mixed [15, 25, 26, 27, 28]  [(0, false), (2, false), (3, false), (1, false), (4, false), (5, false), (6, false), (7, false), (8, false), (9, false), (10, false), (11, false), (12, false), (13, false), (14, false), (15, true), (16, false), (17, false), (18, false), (19, false), (20, false), (21, false), (23, false), (24, false), (22, false), (25, true), (26, true), (27, true), (28, true), (29, false), (30, false)] (by decide +kernel) rfl (by simp [*]; rfl) ?_ | refine AW.dreg tok mixed [9, 13]  [(0, false), (3, false), (1, false), (2, false), (4, false), (5, false), (6, false), (8, false), (12, false), (7, false), (9, true), (10, false), (11, false), (13, true), (14, false), (15, false), (16, false), (17, false), (18, false), (19, false), (20, false), (21, false), (22, false), (23, false), (24, false), (25, false), (26, false), (27, false)] (by decide +kernel) rfl (by simp [*]; rfl) ?_ | refine AW.reg tok (by simp [*]; rfl) ?_ | refine AW.ifB (by simp [*]; rfl) ?_ | refine IfG.t ?_ | refine IfG.f ?_ | (refine IfG.p (fun hg => ?_) (fun hg => ?_) <;> (try (have hg' := hg; simp at hg'))) | (refine IfG.n (fun hg => ?_) (fun hg => ?_) <;> (try (have hg' := hg; simp at hg'))) | (refine OutOK.gateP (fun hg => ?_) (fun hg => ?_) <;> (try (have hg' := hg; simp at hg'))) | (refine OutOK.gateN (fun hg => ?_) (fun hg => ?_) <;> (try (have hg' := hg; simp at hg'))) | (refine IfG.g (fun hg => ?_) (fun hg => ?_) <;> (try (have hg' := hg; simp at hg'))) | (refine OutOK.gate (fun hg => ?_) (fun hg => ?_) <;> (try (have hg' := hg; simp at hg'))) | refine OutOK.run (by simp [*]; rfl) ?_ | refine AW.ret ?_ | refine AW.skip ?_ | refine AW.exit ?_ | refine fin_r ?_ | refine fin_n ?_ | refine AW.block ?_ | refine blockQ_n ?_ | refine blockQ_r ?_ | refine blockQ_e ?_ | refine blockQ_o rfl ?_)
    simp [Try.f26]
end Go.Proofs.Ytbofobjofngoeaa.EngS


set_option linter.unusedSimpArgs false
set_option linter.unusedVariables false
set_option maxHeartbeats 4000000
set_option maxRecDepth 100000
namespace Go.Proofs.Ytbofobjofngoeaa.EngS
open Go Go.Proofs Go.Eng Go.RowKit
attribute [local irreducible] Go.RowKit.wrap64
abbrev EdtX := Int × Int × List Int × ByteArray × ByteArray
def edtX (x : EdtX) : Edt := ⟨x.1, x.2.1, x.2.2.1, x.2.2.2.1, x.2.2.2.2⟩
theorem edts_X (l : List EdtX) : (l.map fun x => PV.ag [PV.sc (.int .i64 x.1), PV.sc (.int .i64 x.2.1), PV.sl true 1 (x.2.2.1.map (fun n => PV.sc (.int .i64 n))), PV.sc (.string x.2.2.2.1), PV.sc (.string x.2.2.2.2)]) = edts true (l.map edtX) := by
  rw [edts, els, List.map_map]; rfl
def WfX (x : List EdtX) : Prop := x.length ≤ maxLen ∧ ∀ y ∈ x, (Lit.int .i64 y.1).wf = true ∧ (Lit.int .i64 y.2.1).wf = true ∧ (y.2.2.1.length ≤ maxLen ∧ ∀ z ∈ y.2.2.1, (Lit.int .i64 z).wf = true) ∧ y.2.2.2.1.size ≤ maxLen ∧ y.2.2.2.2.size ≤ maxLen
theorem WfX.v {x : List EdtX} (h : WfX x) : (x.map edtX).length ≤ 9223372036854775807 ∧ ∀ e ∈ x.map edtX, EdtV e := by
  have hm : maxLen = 9223372036854775807 := rfl
  refine ⟨by rw [List.length_map, ← hm]; exact h.1, fun e he => ?_⟩
  obtain ⟨y, hy, rfl⟩ := List.mem_map.1 he
  obtain ⟨-, -, h3, h4, h5⟩ := h.2 y hy
  rw [hm] at h3 h4 h5
  exact ⟨h4, h5, h3.1⟩
theorem hist_len {l : List Edt} {n : Int} (h : hist l n = true) : l.length ≤ 24 := (hist_iff'.1 h).len
end Go.Proofs.Ytbofobjofngoeaa.EngS


set_option linter.unusedSimpArgs false
set_option linter.unusedVariables false
set_option maxHeartbeats 4000000
set_option maxRecDepth 100000
namespace Go.Proofs.Ytbofobjofngoeaa.EngS
open Go Go.Proofs Go.Eng Go.RowKit
attribute [local irreducible] Go.RowKit.wrap64
theorem c_IndexFunc_edt (l : List Edt) (f : Nat) (C1 C2 : List PV) (p : Edt → Bool) (h : l.length ≤ 9223372036854775806) (hbf : HasBody Try.prog f) (cf : ∀ x ∈ l, ACall Try.prog f [edtD x, .p C1, .p C2] [.x, .p C1, .p C2] [boo (p x)]) :
    ACall Try.prog 124 [.v (.sl true 5 (edts true l)), .f f [C1, C2]] [.x, .f f [C1, C2]] [int (idx p l)] := by
  replace cf : Hd _ := cf
  refine ACall.of (N := 19) tok Try.func124 rfl rfl rfl (by simp) ?_
  repeat' (first | with_reducible refine OutOK.done ?_ | refine thenQ_n ?_ | refine thenQ_r ?_ | refine thenQ_e ?_ | refine AW.seq ?_ | refine AW.reg tok (by simp [*]; rfl) ?_ | refine AW.ifB (by simp [*]; rfl) ?_ | refine IfG.t ?_ | refine IfG.f ?_ | (refine IfG.p (fun hg => ?_) (fun hg => ?_) <;> (try (have hg' := hg; simp at hg'))) | (refine IfG.n (fun hg => ?_) (fun hg => ?_) <;> (try (have hg' := hg; simp at hg'))) | (refine OutOK.gateP (fun hg => ?_) (fun hg => ?_) <;> (try (have hg' := hg; simp at hg'))) | (refine OutOK.gateN (fun hg => ?_) (fun hg => ?_) <;> (try (have hg' := hg; simp at hg'))) | (refine IfG.g (fun hg => ?_) (fun hg => ?_) <;> (try (have hg' := hg; simp at hg'))) | (refine OutOK.gate (fun hg => ?_) (fun hg => ?_) <;> (try (have hg' := hg; simp at hg'))) | refine OutOK.run (by simp [*]; rfl) ?_ | refine AW.ret ?_ | refine AW.skip ?_ | refine AW.exit ?_ | refine fin_r ?_ | refine fin_n ?_ | refine AW.block ?_ | refine blockQ_n ?_ | refine blockQ_r ?_ | refine blockQ_e ?_ | refine blockQ_o rfl ?_)
  refine AW.loopL (fun i => i ≤ l.length ∧ Hd ((l.take i).any p = false)) (fun i => [(0, .c (.sl true 5 (edts true l))), (1, .fn f [.pt 100000051 [] 0, .pt 100000052 [] 0]), (7, .c (.sc (.int .i64 (l.length : Int)))), (8, .c (.sc (.int .i64 (i : Int))))]) (fun _ => [(100000051, .bx C1), (100000052, .bx C2)]) (fun i => l.length - i) 0 ⟨Nat.zero_le _, by simp [Hd]⟩ ⟨by simp, by simp, by simp⟩ ?_
  rintro i ⟨hi, hs⟩
  rcases Nat.lt_or_ge i l.length with hl | hl
  · have e1 : wrap64 ((i : Int) + 1) = ((i + 1 : Nat) : Int) := by rw [w64 (by omega) (by omega)]; omega
    have cs := cf.out l[i] (List.getElem_mem hl)
    cases hp : p l[i] with
    | true =>
      rw [hp] at cs
      have hf : idx p l = (i : Int) := idx_at hl hs.out hp
      clear cf
      repeat' (first | with_reducible refine OutOK.done ?_ | refine thenQ_n ?_ | refine thenQ_r ?_ | refine thenQ_e ?_ | refine AW.seq ?_ | refine AW.reg tok (by simp [*]; rfl) ?_ | refine AW.ifB (by simp [*]; rfl) ?_ | refine IfG.t ?_ | refine IfG.f ?_ | (refine IfG.p (fun hg => ?_) (fun hg => ?_) <;> (try (have hg' := hg; simp at hg'))) | (refine IfG.n (fun hg => ?_) (fun hg => ?_) <;> (try (have hg' := hg; simp at hg'))) | (refine OutOK.gateP (fun hg => ?_) (fun hg => ?_) <;> (try (have hg' := hg; simp at hg'))) | (refine OutOK.gateN (fun hg => ?_) (fun hg => ?_) <;> (try (have hg' := hg; simp at hg'))) | (refine IfG.g (fun hg => ?_) (fun hg => ?_) <;> (try (have hg' := hg; simp at hg'))) | (refine OutOK.gate (fun hg => ?_) (fun hg => ?_) <;> (try (have hg' := hg; simp at hg'))) | (refine OutOK.callF [] (by simp [*]; rfl) (by simp [*]; rfl) (by simp [*]; rfl) hbf (by apply cs <;> first | assumption | exact Hd.out (by assumption) | ((try (clear e0)); (try (clear e1)); (try (clear e2)); (try (clear e3)); (try (clear e4)); (try (clear e5)); (try (clear e6)); (try (clear e7)); (try (clear e8)); (try (clear e9)); (try (clear e10)); (try (clear e11)); omega)) ⟨by simp [*], by simp [*], by simp [*], by simp [*], by simp [*]⟩ (by simp [*]) (by simp [*]; rfl) ?_) | refine OutOK.run (by simp [*]; rfl) ?_ | refine AW.ret ?_ | refine AW.skip ?_ | refine AW.exit ?_ | refine fin_r ?_ | refine fin_n ?_ | refine AW.block ?_ | refine blockQ_n ?_ | refine blockQ_r ?_ | refine blockQ_e ?_ | refine blockQ_o rfl ?_)
      simp [Try.f124, hf]
    | false =>
      rw [hp] at cs
      have hs2 : Hd ((l.take (i + 1)).any p = false) := any_more hl hs.out hp
      clear cf
      repeat' (first | with_reducible refine OutOK.done ?_ | refine thenQ_n ?_ | refine thenQ_r ?_ | refine thenQ_e ?_ | refine AW.seq ?_ | refine AW.reg tok (by simp [*]; rfl) ?_ | refine AW.ifB (by simp [*]; rfl) ?_ | refine IfG.t ?_ | refine IfG.f ?_ | (refine IfG.p (fun hg => ?_) (fun hg => ?_) <;> (try (have hg' := hg; simp at hg'))) | (refine IfG.n (fun hg => ?_) (fun hg => ?_) <;> (try (have hg' := hg; simp at hg'))) | (refine OutOK.gateP (fun hg => ?_) (fun hg => ?_) <;> (try (have hg' := hg; simp at hg'))) | (refine OutOK.gateN (fun hg => ?_) (fun hg => ?_) <;> (try (have hg' := hg; simp at hg'))) | (refine IfG.g (fun hg => ?_) (fun hg => ?_) <;> (try (have hg' := hg; simp at hg'))) | (refine OutOK.gate (fun hg => ?_) (fun hg => ?_) <;> (try (have hg' := hg; simp at hg'))) | (refine OutOK.callF [] (by simp [*]; rfl) (by simp [*]; rfl) (by simp [*]; rfl) hbf (by apply cs <;> first | assumption | exact Hd.out (by assumption) | ((try (clear e0)); (try (clear e1)); (try (clear e2)); (try (clear e3)); (try (clear e4)); (try (clear e5)); (try (clear e6)); (try (clear e7)); (try (clear e8)); (try (clear e9)); (try (clear e10)); (try (clear e11)); omega)) ⟨by simp [*], by simp [*], by simp [*], by simp [*], by simp [*]⟩ (by simp [*]) (by simp [*]; rfl) ?_) | refine OutOK.run (by simp [*]; rfl) ?_ | refine AW.ret ?_ | refine AW.skip ?_ | refine AW.exit ?_ | refine fin_r ?_ | refine fin_n ?_ | refine AW.block ?_ | refine blockQ_n ?_ | refine blockQ_r ?_ | refine blockQ_e ?_ | refine blockQ_o rfl ?_)
      exact ⟨i + 1, ⟨hl, hs2⟩, ⟨by simp, by simp, by simp⟩, by ((try (clear e0)); (try (clear e1)); (try (clear e2)); (try (clear e3)); (try (clear e4)); (try (clear e5)); (try (clear e6)); (try (clear e7)); (try (clear e8)); (try (clear e9)); (try (clear e10)); (try (clear e11)); omega)⟩
  · have hf : idx p l = -1 := idx_none (any_end hl hs.out)
    have hn : ¬ i < l.length := by omega
    clear cf
    repeat' (first | with_reducible refine OutOK.done ?_ | refine thenQ_n ?_ | refine thenQ_r ?_ | refine thenQ_e ?_ | refine AW.seq ?_ | refine AW.reg tok (by simp [*]; rfl) ?_ | refine AW.ifB (by simp [*]; rfl) ?_ | refine IfG.t ?_ | refine IfG.f ?_ | (refine IfG.p (fun hg => ?_) (fun hg => ?_) <;> (try (have hg' := hg; simp at hg'))) | (refine IfG.n (fun hg => ?_) (fun hg => ?_) <;> (try (have hg' := hg; simp at hg'))) | (refine OutOK.gateP (fun hg => ?_) (fun hg => ?_) <;> (try (have hg' := hg; simp at hg'))) | (refine OutOK.gateN (fun hg => ?_) (fun hg => ?_) <;> (try (have hg' := hg; simp at hg'))) | (refine IfG.g (fun hg => ?_) (fun hg => ?_) <;> (try (have hg' := hg; simp at hg'))) | (refine OutOK.gate (fun hg => ?_) (fun hg => ?_) <;> (try (have hg' := hg; simp at hg'))) | refine OutOK.run (by simp [*]; rfl) ?_ | refine AW.ret ?_ | refine AW.skip ?_ | refine AW.exit ?_ | refine fin_r ?_ | refine fin_n ?_ | refine AW.block ?_ | refine blockQ_n ?_ | refine blockQ_r ?_ | refine blockQ_e ?_ | refine blockQ_o rfl ?_)
    simp [Try.f124, hf]
end Go.Proofs.Ytbofobjofngoeaa.EngS


set_option linter.unusedSimpArgs false
set_option linter.unusedVariables false
set_option maxHeartbeats 4000000
set_option maxRecDepth 100000
namespace Go.Proofs.Ytbofobjofngoeaa.EngS
open Go Go.Proofs Go.Eng Go.RowKit
attribute [local irreducible] Go.RowKit.wrap64
theorem hist_ck {l : List Edt} {n : Int} (h : hist l n = true) : ∀ e ∈ l, e.ck.length ≤ 3 := by
  have hh := hist_iff'.1 h
  intro e he
  obtain ⟨i, hi, rfl⟩ := List.getElem_of_mem he
  have := (hh.fl i hi).1
  have := (inR_iff.1 hh.nn).2
  omega
end Go.Proofs.Ytbofobjofngoeaa.EngS


set_option linter.unusedSimpArgs false
set_option linter.unusedVariables false
set_option maxHeartbeats 4000000
set_option maxRecDepth 100000
namespace Go.Proofs.Ytbofobjofngoeaa.EngS
open Go Go.Proofs Go.Eng Go.RowKit
attribute [local irreducible] Go.RowKit.wrap64
end Go.Proofs.Ytbofobjofngoeaa.EngS


set_option linter.unusedSimpArgs false
set_option linter.unusedVariables false
namespace Go.Eng
open Go.RowKit
variable {P : Program} {T : Nat → Option TI} {N : Nat}
def ownR (st : St) (t m : Nat) : Option St :=
  match st.env t with
  | .rn n [] (.sub 0 hi k) => match st.σ n with
    | some (.sv (.sl false k' es)) => if k' = k ∧ m < 100000000 ∧ st.σ m = none then some (((st.move [n]).new m (.sv (.sl false k (es.take hi)))).put (some t) (.rf m [])) else none
    | _ => none
  | _ => none
theorem Rel.ownR {fr a w} (hf : FrOK P N fr) {st st2 : St} {t m : Nat} (h2 : Go.Eng.ownR st t m = some st2) (h : Rel fr st a w) : Rel fr st2 a w := by
  obtain ⟨S, rv, hR⟩ := h
  unfold Go.Eng.ownR at h2
  split at h2
  · rename_i n hi k he
    split at h2
    · rename_i k' es hσ
      split at h2
      · rename_i hk
        cases h2
        obtain ⟨rfl, hn, hm0⟩ := hk
        have hv := hR.env t
        rw [he, VR_rn] at hv
        obtain ⟨u, hu, A, mm, cap, rfl, hmc, _, him, hv⟩ := hv
        rw [VR_rf] at hu
        obtain ⟨r, hr, hat, _⟩ := hu
        rw [hσ] at hr
        cases hr
        simp only [rAt, Option.some.injEq] at hat
        obtain ⟨_, hrv⟩ := hR.rr n _ hσ
        rw [hat, RV_ow] at hrv
        have hnew : RR w fr.X (.sv (.sl false k' (es.take hi))) (a.tmps.getD t undef) (S n) := by
          refine ⟨rfl, ?_⟩
          rw [RV_ow, hv]
          rcases hrv with ⟨h1, h2⟩ | ⟨b, cap', cur, ty, h1, h2, h3, h4, h5, h6⟩
          · cases h1
            left
            have : hi = 0 := by omega
            subst this
            simp
          · cases h1
            right
            have hl : (es.take hi).length = hi := by simp; omega
            refine ⟨b, cap, cur, ty, ?_, by omega, h3, h4, h5, RE_take hi es b 0 _ h6⟩
            rw [hl]
            by_cases hc : cap = 0
            · simp [hc]
            · simp [hc, Addr.add]
        obtain ⟨S', rv', hR', hrv'⟩ := Rel0.consume hf hR (w' := w) (d := m) (ms := [n]) rfl TD.refl rfl (Nat.le_refl _) (fun _ _ _ => rfl) (.inl hm0) (fun q hq => by simp at hq; subst hq; exact ⟨_, hσ⟩) hnew (fun b hb => .inr ⟨n, by simp, hb⟩)
          (by cases e : fr.rv0 m with
              | none => rfl
              | some v => have := hf.names m v e; omega)
        refine ⟨S', rv', { hR' with env := fun t' => ?_ }⟩
        simp only [St.put]
        by_cases ht : t' = t
        · subst ht
          rw [if_pos rfl, VR_rf]
          exact ⟨.sv (.sl false k' (es.take hi)), by simp [St.new], by simp [rAt, hrv'], false, k', es.take hi, rfl⟩
        · rw [if_neg ht]; exact hR'.env t'
      · cases h2
    · cases h2
  · cases h2
theorem AW.ownR {c : Code} {st st2 : St} {Q : Exit → St → Prop} (t m : Nat) (h : Go.Eng.ownR st t m = some st2) (hc : AW P N c st2 Q) : AW P N c st Q := fun fr a w hf hr => hc fr a w hf (Rel.ownR hf h hr)
attribute [simp] ownR
def clrL (T : Nat → Option TI) (e : List (Nat × V)) (r : List (Nat × Root)) (t : Nat) : V → Option St
  | .rn n [] (.sub lo hi k) => match lookR r n with
    | some (.sv (.sl false k' es)) => (T t).bind fun i => match i.kd with
      | .sl e' kk _ => (T e').bind fun ie => if k' = k ∧ kk = k ∧ hi = es.length ∧ lo ≤ hi ∧ (ie.agg = false → k = 1) ∧ 0 < k then
          some (mk (e.map fun q => (q.1, q.2.ren (killIn n) (killIn n))) (ins n (.sv (.sl false k (es.take lo ++ List.replicate (hi - lo) (xxEl ie.agg k)))) r)) else none
      | _ => none
    | _ => none
  | _ => none
theorem mk_clr (e : List (Nat × V)) (r : List (Nat × Root)) (n : Nat) (x : Root) : ({ env := fun t => ((mk e r).env t).ren (killIn n) (killIn n), σ := fun m => if m = n then some x else (mk e r).σ m } : St) = mk (e.map fun q => (q.1, q.2.ren (killIn n) (killIn n))) (ins n x r) := by
  simp only [mk]
  congr
  · funext t; rw [look_map _ rfl]
  · funext t; rw [lookR_ins]
@[simp] theorem clrSt_mk (T : Nat → Option TI) (e r t x) : clrSt T (mk e r) t x = clrL T e r t x := by
  cases x with
  | rn n p s =>
    cases p with
    | cons i p => rfl
    | nil =>
      cases s with
      | known v => rfl
      | sub lo hi k =>
        simp only [clrSt, clrL, mk_clr]
        rfl
  | _ => rfl
attribute [simp] clrL killIn
theorem AW.stopT {st : St} {Q : Exit → St → Prop} (h : Hold (AW P N .ret st Q)) : AW P N .ret st Q := h.out
theorem AW.knownG {c : Code} {st st2 : St} {Q : Exit → St → Prop} (k t j : Nat) {n : Nat} {p : List Nat} {u : Value} {xs : List V} (hk : st.env k = .rn n p (.known u)) (ht : st.env t = .g xs) (hj : xs[j]? = some (.c (.sc u))) (h2 : st.put (some t) (.g (xs.set j (.rf n p))) = st2) (hc : AW P N c st2 Q) : AW P N c st Q := by
  subst h2
  intro fr a w hf ⟨S, rv, hR⟩
  refine hc fr a w hf ⟨S, rv, { hR with env := fun s => ?_ }⟩
  simp only [St.put]
  by_cases hs : s = t
  · rw [if_pos hs, hs]
    have h1 := hR.env k
    rw [hk, VR_rn] at h1
    obtain ⟨u', h1, hu⟩ := h1
    have hu : u' = u := hu
    subst hu
    have h2 := hR.env t
    rw [ht, VR_g] at h2
    obtain ⟨arr, he, hv⟩ := h2
    rw [VR_g]
    refine ⟨arr, he, VRs_mk _ _ (by rw [List.length_set]; exact VRs_length _ _ hv) (fun i x v hi hvi => ?_)⟩
    by_cases hij : j = i
    · subst hij
      have hlt : j < xs.length := by rcases Nat.lt_or_ge j xs.length with h | h; exact h; simp [List.getElem?_eq_none h] at hj
      rw [List.getElem?_set_self hlt] at hi
      cases hi
      obtain ⟨v', hv', hx⟩ := VRs_get _ _ j _ hv hj
      rw [hvi] at hv'; cases hv'
      rw [VR_c, RV_sc] at hx
      rw [hx]; exact h1
    · rw [List.getElem?_set_ne hij] at hi
      obtain ⟨v', hv', hx⟩ := VRs_get _ _ i _ hv hi
      rw [hvi] at hv'; cases hv'
      exact hx
  · rw [if_neg hs]; exact hR.env s
end Go.Eng

set_option linter.unusedSimpArgs false
set_option linter.unusedVariables false
set_option maxHeartbeats 4000000
set_option maxRecDepth 100000
namespace Go.Proofs.Ytbofobjofngoeaa.EngS
open Go Go.Proofs Go.Eng Go.RowKit
attribute [local irreducible] Go.RowKit.wrap64
attribute [local simp] optO sliceV
theorem c_impl_editOf_1 (e : Edt) (t n : Int) : ACall Try.prog 125 [edtD e, .p [.sc (.int .i64 t)], .p [.sc (.int .i64 n)]] [.x, .p [.sc (.int .i64 t)], .p [.sc (.int .i64 n)]] [boo (keyE t n e)] := by
  by_cases h1 : e.tm = t
  · refine ACall.of (N := 15) tok Try.func125 rfl rfl rfl (by simp) ?_
    repeat' (first | with_reducible refine OutOK.done ?_ | refine thenQ_n ?_ | refine thenQ_r ?_ | refine thenQ_e ?_ | refine AW.seq ?_ | refine AW.reg tok (by simp [*]; rfl) ?_ | refine AW.ifB (by simp [*]; rfl) ?_ | refine IfG.t ?_ | refine IfG.f ?_ | (refine IfG.p (fun hg => ?_) (fun hg => ?_) <;> (try (have hg' := hg; simp at hg'))) | (refine IfG.n (fun hg => ?_) (fun hg => ?_) <;> (try (have hg' := hg; simp at hg'))) | (refine OutOK.gateP (fun hg => ?_) (fun hg => ?_) <;> (try (have hg' := hg; simp at hg'))) | (refine OutOK.gateN (fun hg => ?_) (fun hg => ?_) <;> (try (have hg' := hg; simp at hg'))) | (refine IfG.g (fun hg => ?_) (fun hg => ?_) <;> (try (have hg' := hg; simp at hg'))) | (refine OutOK.gate (fun hg => ?_) (fun hg => ?_) <;> (try (have hg' := hg; simp at hg'))) | refine OutOK.run (by simp [*]; rfl) ?_ | refine AW.ret ?_ | refine AW.skip ?_ | refine AW.exit ?_ | refine fin_r ?_ | refine fin_n ?_ | refine AW.block ?_ | refine blockQ_n ?_ | refine blockQ_r ?_ | refine blockQ_e ?_ | refine blockQ_o rfl ?_)
    all_goals simp [Try.f125, keyE, *]
  · refine ACall.of (N := 15) tok Try.func125 rfl rfl rfl (by simp) ?_
    repeat' (first | with_reducible refine OutOK.done ?_ | refine thenQ_n ?_ | refine thenQ_r ?_ | refine thenQ_e ?_ | refine AW.seq ?_ | refine AW.reg tok (by simp [*]; rfl) ?_ | refine AW.ifB (by simp [*]; rfl) ?_ | refine IfG.t ?_ | refine IfG.f ?_ | (refine IfG.p (fun hg => ?_) (fun hg => ?_) <;> (try (have hg' := hg; simp at hg'))) | (refine IfG.n (fun hg => ?_) (fun hg => ?_) <;> (try (have hg' := hg; simp at hg'))) | (refine OutOK.gateP (fun hg => ?_) (fun hg => ?_) <;> (try (have hg' := hg; simp at hg'))) | (refine OutOK.gateN (fun hg => ?_) (fun hg => ?_) <;> (try (have hg' := hg; simp at hg'))) | (refine IfG.g (fun hg => ?_) (fun hg => ?_) <;> (try (have hg' := hg; simp at hg'))) | (refine OutOK.gate (fun hg => ?_) (fun hg => ?_) <;> (try (have hg' := hg; simp at hg'))) | refine OutOK.run (by simp [*]; rfl) ?_ | refine AW.ret ?_ | refine AW.skip ?_ | refine AW.exit ?_ | refine fin_r ?_ | refine fin_n ?_ | refine AW.block ?_ | refine blockQ_n ?_ | refine blockQ_r ?_ | refine blockQ_e ?_ | refine blockQ_o rfl ?_)
    all_goals simp [Try.f125, keyE, *]
theorem c_impl_editOf (l : List Edt) (t n : Int) (h : l.length ≤ 9223372036854775806) : ACall Try.prog 92 [.v (.sl true 5 (edts true l)), int t, int n] [.x, .x, .x] [int (fndE l t n)] := by
  have ci := c_IndexFunc_edt l 125 [.sc (.int .i64 t)] [.sc (.int .i64 n)] (keyE t n) h (by simp) (fun x _ => c_impl_editOf_1 x t n)
  rw [show idx (keyE t n) l = fndE l t n from rfl] at ci
  generalize fndE l t n = F at *
  refine ACall.of (N := 10) tok Try.func92 rfl rfl rfl (by simp) ?_
  repeat' (first | with_reducible refine OutOK.done ?_ | refine thenQ_n ?_ | refine thenQ_r ?_ | refine thenQ_e ?_ | refine AW.seq ?_ | refine AW.reg tok (by simp [*]; rfl) ?_ | refine AW.ifB (by simp [*]; rfl) ?_ | refine IfG.t ?_ | refine IfG.f ?_ | (refine IfG.p (fun hg => ?_) (fun hg => ?_) <;> (try (have hg' := hg; simp at hg'))) | (refine IfG.n (fun hg => ?_) (fun hg => ?_) <;> (try (have hg' := hg; simp at hg'))) | (refine OutOK.gateP (fun hg => ?_) (fun hg => ?_) <;> (try (have hg' := hg; simp at hg'))) | (refine OutOK.gateN (fun hg => ?_) (fun hg => ?_) <;> (try (have hg' := hg; simp at hg'))) | (refine IfG.g (fun hg => ?_) (fun hg => ?_) <;> (try (have hg' := hg; simp at hg'))) | (refine OutOK.gate (fun hg => ?_) (fun hg => ?_) <;> (try (have hg' := hg; simp at hg'))) | (refine OutOK.callF [] (by simp [*]; rfl) (by simp [*]; rfl) (by simp [*]; rfl) hb124 (by apply ci <;> first | assumption | exact Hd.out (by assumption) | ((try (clear e0)); (try (clear e1)); (try (clear e2)); (try (clear e3)); (try (clear e4)); (try (clear e5)); (try (clear e6)); (try (clear e7)); (try (clear e8)); (try (clear e9)); (try (clear e10)); (try (clear e11)); omega)) ⟨by simp [*], by simp [*], by simp [*], by simp [*], by simp [*]⟩ (by simp [*]) (by simp [*]; rfl) ?_) | refine OutOK.run (by simp [*]; rfl) ?_ | refine AW.ret ?_ | refine AW.skip ?_ | refine AW.exit ?_ | refine fin_r ?_ | refine fin_n ?_ | refine AW.block ?_ | refine blockQ_n ?_ | refine blockQ_r ?_ | refine blockQ_e ?_ | refine blockQ_o rfl ?_)
  simp [Try.f92]
theorem c_impl_editCounts (l : List Edt) (n : Int) (h : l.length ≤ 24) (h1 : 1 ≤ n) (h3 : n ≤ 3) (ht : ∀ e ∈ l, inR 0 (n - 1) e.tm = true) : ACall Try.prog 93 [.v (.sl true 5 (edts true l)), int n] [.x, .x] [.v (.sl false 1 (ints (cts l n l.length)))] := by
  have b1 : n * 8 ≤ 140737488355328 := by omega
  have b2 : n ≤ 4611686018427387904 := by omega
  have hn0 : 0 ≤ n := by omega
  have hz : Hd (cts l n 0 = List.replicate n.toNat 0) := cts_zero l n
  have ht' : Hd _ := ht
  clear ht
  refine ACall.of (N := 25) tok Try.func93 rfl rfl rfl (by simp) ?_
  repeat' (first | with_reducible refine OutOK.done ?_ | refine thenQ_n ?_ | refine thenQ_r ?_ | refine thenQ_e ?_ | refine AW.seq ?_ | refine AW.reg tok (by simp [*]; rfl) ?_ | refine AW.ifB (by simp [*]; rfl) ?_ | refine IfG.t ?_ | refine IfG.f ?_ | (refine IfG.p (fun hg => ?_) (fun hg => ?_) <;> (try (have hg' := hg; simp at hg'))) | (refine IfG.n (fun hg => ?_) (fun hg => ?_) <;> (try (have hg' := hg; simp at hg'))) | (refine OutOK.gateP (fun hg => ?_) (fun hg => ?_) <;> (try (have hg' := hg; simp at hg'))) | (refine OutOK.gateN (fun hg => ?_) (fun hg => ?_) <;> (try (have hg' := hg; simp at hg'))) | (refine IfG.g (fun hg => ?_) (fun hg => ?_) <;> (try (have hg' := hg; simp at hg'))) | (refine OutOK.gate (fun hg => ?_) (fun hg => ?_) <;> (try (have hg' := hg; simp at hg'))) | refine OutOK.run (by simp [*]; rfl) ?_ | refine AW.ret ?_ | refine AW.skip ?_ | refine AW.exit ?_ | refine fin_r ?_ | refine fin_n ?_ | refine AW.block ?_ | refine blockQ_n ?_ | refine blockQ_r ?_ | refine blockQ_e ?_ | refine blockQ_o rfl ?_)
  refine AW.loopL (α := Nat) (fun i => i ≤ l.length) (fun i => [(5, .rf 9000 []), (10, .c (.sl true 5 (edts true l))), (11, .c (.sc (.int .i64 (l.length : Int)))), (12, .c (.sc (.int .i64 (i : Int))))]) (fun i => [(9000, .sv (.sl false 1 (ints (cts l n i))))]) (fun i => l.length - i) 0 (Nat.zero_le _) ⟨by simp, by simp [hz.out], by simp⟩ ?_
  intro i hi
  rcases Nat.lt_or_ge i l.length with hl | hl
  · have e1 : wrap64 ((i : Int) + 1) = ((i + 1 : Nat) : Int) := by rw [w64 (by omega) (by omega)]; omega
    have hr := inR_iff.1 (ht'.out _ (List.getElem_mem hl))
    obtain ⟨T, hT⟩ : ∃ T : Nat, l[i].tm = (T : Int) := ⟨l[i].tm.toNat, by omega⟩
    have hst : Hd ((cts l n i).set T (((cntE (l.take i) (T : Int) : Nat) : Int) + 1) = cts l n (i + 1)) := cts_step l n i T hl hT
    have hc24 : cntE (l.take i) (T : Int) ≤ 24 := by have := cntE_le (l.take i) T; have := List.length_take_le i l; omega
    have hTl : T < (cts l n i).length := by simp; omega
    have hat : (cts l n i)[T] = ((cntE (l.take i) (T : Int) : Nat) : Int) := cts_at _ _ _ _ _
    generalize cts l n i = cl at *
    generalize cntE (l.take i) (T : Int) = c at *
    obtain ⟨c1, hc1⟩ : ∃ c1, (c : Int) + 1 = c1 := ⟨_, rfl⟩
    have e4 : wrap64 ((c : Int) + 1) = c1 := by rw [w64 (by omega) (by omega)]; exact hc1
    rw [hc1] at hst
    clear hc1 hr
    repeat' (first | with_reducible refine OutOK.done ?_ | refine thenQ_n ?_ | refine thenQ_r ?_ | refine thenQ_e ?_ | refine AW.seq ?_ | refine AW.reg tok (by simp [*]; rfl) ?_ | refine AW.ifB (by simp [*]; rfl) ?_ | refine IfG.t ?_ | refine IfG.f ?_ | (refine IfG.p (fun hg => ?_) (fun hg => ?_) <;> (try (have hg' := hg; simp at hg'))) | (refine IfG.n (fun hg => ?_) (fun hg => ?_) <;> (try (have hg' := hg; simp at hg'))) | (refine OutOK.gateP (fun hg => ?_) (fun hg => ?_) <;> (try (have hg' := hg; simp at hg'))) | (refine OutOK.gateN (fun hg => ?_) (fun hg => ?_) <;> (try (have hg' := hg; simp at hg'))) | (refine IfG.g (fun hg => ?_) (fun hg => ?_) <;> (try (have hg' := hg; simp at hg'))) | (refine OutOK.gate (fun hg => ?_) (fun hg => ?_) <;> (try (have hg' := hg; simp at hg'))) | refine OutOK.run (by simp [*]; rfl) ?_ | refine AW.ret ?_ | refine AW.skip ?_ | refine AW.exit ?_ | refine fin_r ?_ | refine fin_n ?_ | refine AW.block ?_ | refine blockQ_n ?_ | refine blockQ_r ?_ | refine blockQ_e ?_ | refine blockQ_o rfl ?_)
    exact ⟨i + 1, hl, ⟨by simp, by simp [hst.out], by simp⟩, by ((try (clear e0)); (try (clear e1)); (try (clear e2)); (try (clear e3)); (try (clear e4)); (try (clear e5)); (try (clear e6)); (try (clear e7)); (try (clear e8)); (try (clear e9)); (try (clear e10)); (try (clear e11)); omega)⟩
  · have hii : i = l.length := by omega
    subst hii
    repeat' (first | with_reducible refine OutOK.done ?_ | refine thenQ_n ?_ | refine thenQ_r ?_ | refine thenQ_e ?_ | refine AW.seq ?_ | refine AW.reg tok (by simp [*]; rfl) ?_ | refine AW.ifB (by simp [*]; rfl) ?_ | refine IfG.t ?_ | refine IfG.f ?_ | (refine IfG.p (fun hg => ?_) (fun hg => ?_) <;> (try (have hg' := hg; simp at hg'))) | (refine IfG.n (fun hg => ?_) (fun hg => ?_) <;> (try (have hg' := hg; simp at hg'))) | (refine OutOK.gateP (fun hg => ?_) (fun hg => ?_) <;> (try (have hg' := hg; simp at hg'))) | (refine OutOK.gateN (fun hg => ?_) (fun hg => ?_) <;> (try (have hg' := hg; simp at hg'))) | (refine IfG.g (fun hg => ?_) (fun hg => ?_) <;> (try (have hg' := hg; simp at hg'))) | (refine OutOK.gate (fun hg => ?_) (fun hg => ?_) <;> (try (have hg' := hg; simp at hg'))) | refine OutOK.run (by simp [*]; rfl) ?_ | refine AW.ret ?_ | refine AW.skip ?_ | refine AW.exit ?_ | refine fin_r ?_ | refine fin_n ?_ | refine AW.block ?_ | refine blockQ_n ?_ | refine blockQ_r ?_ | refine blockQ_e ?_ | refine blockQ_o rfl ?_)
    simp [Try.f93]
theorem c_slices_Clone_edt (l : List Edt) (h : l.length ≤ 1000) : ACall Try.prog 126 [.v (.sl true 5 (edts true l))] [.x] [.v (.sl false 5 (edts true l))] := by
  have h1 : (l.length : Int) * 72 ≤ 140737488355328 := by omega
  have h2 : (l.length : Int) ≤ 4611686018427387904 := by omega
  have h3 : l.length * 72 ≤ 140737488355328 := by omega
  have h4 : l.length ≤ 4611686018427387904 := by omega
  refine ACall.of (N := 8) tok Try.func126 rfl rfl rfl (by simp) ?_
  repeat' (first | with_reducible refine OutOK.done ?_ | refine thenQ_n ?_ | refine thenQ_r ?_ | refine thenQ_e ?_ | refine AW.seq ?_ | (refine AW.isNil tok rfl rfl rfl (by simp [*]; rfl) (by simp [*]; done) (by decide) ?_; intro hb hc; cases hb <;> simp at hc) | refine AW.reg tok (by simp [*]; rfl) ?_ | refine AW.ifB (by simp [*]; rfl) ?_ | refine IfG.t ?_ | refine IfG.f ?_ | (refine IfG.p (fun hg => ?_) (fun hg => ?_) <;> (try (have hg' := hg; simp at hg'))) | (refine IfG.n (fun hg => ?_) (fun hg => ?_) <;> (try (have hg' := hg; simp at hg'))) | (refine OutOK.gateP (fun hg => ?_) (fun hg => ?_) <;> (try (have hg' := hg; simp at hg'))) | (refine OutOK.gateN (fun hg => ?_) (fun hg => ?_) <;> (try (have hg' := hg; simp at hg'))) | (refine IfG.g (fun hg => ?_) (fun hg => ?_) <;> (try (have hg' := hg; simp at hg'))) | (refine OutOK.gate (fun hg => ?_) (fun hg => ?_) <;> (try (have hg' := hg; simp at hg'))) | refine OutOK.run (by simp [*]; rfl) ?_ | refine AW.ret ?_ | refine AW.skip ?_ | refine AW.exit ?_ | refine fin_r ?_ | refine fin_n ?_ | refine AW.block ?_ | refine blockQ_n ?_ | refine blockQ_r ?_ | refine blockQ_e ?_ | refine blockQ_o rfl ?_)
  all_goals (try simp [*, Try.f126])
def mixE (l : List Edt) (i : Nat) : List PV := edts false (l.take i) ++ edts true (l.drop i)
theorem mixE_len (l : List Edt) (i : Nat) (h : i ≤ l.length) : (mixE l i).length = l.length := by simp [mixE]; omega
theorem mixE_at (l : List Edt) (i : Nat) (h : i < l.length) : (mixE l i)[i]? = some (.ag (edtC true l[i])) := by
  rw [mixE, List.getElem?_append_right (by simp; omega)]
  simp
  rw [show i - min i l.length = 0 by omega]
  simp [h]
theorem mixE_set (l : List Edt) (i : Nat) (h : i < l.length) : (mixE l i).set i (.ag (edtC false l[i])) = mixE l (i + 1) := by
  have hl : (edts false (l.take i)).length = i := by simp; omega
  have e1 : edts true (l.drop i) = .ag (edtC true l[i]) :: edts true (l.drop (i + 1)) := by
    have := List.drop_eq_getElem_cons h
    rw [this]; rfl
  have e2 : edts false (l.take (i + 1)) = edts false (l.take i) ++ [.ag (edtC false l[i])] := by
    have := List.take_succ_eq_append_getElem h
    rw [this, edts, els, List.map_append]; rfl
  rw [mixE, List.set_append_right _ _ (by omega), hl, Nat.sub_self, e1, List.set_cons_zero, mixE, e2, List.append_assoc]
  rfl
theorem c_impl_copyEdits (l : List Edt) (h : l.length ≤ 1000) (hck : ∀ e ∈ l, e.ck.length ≤ 1048576) : ACall Try.prog 95 [.v (.sl true 5 (edts true l))] [.x] [.v (.sl false 5 (edts false l))] := by
  have cc := c_slices_Clone_edt l h
  have hck' : Hd _ := hck
  have hm0 : Hd (mixE l 0 = edts true l) := by simp [Hd, mixE]
  have hml : Hd (mixE l l.length = edts false l) := by simp [Hd, mixE]
  clear hck
  refine ACall.of (N := 24) tok Try.func95 rfl rfl rfl (by simp) ?_
  repeat' (first | with_reducible refine OutOK.done ?_ | refine thenQ_n ?_ | refine thenQ_r ?_ | refine thenQ_e ?_ | refine AW.seq ?_ | refine AW.reg tok (by simp [*]; rfl) ?_ | refine AW.ifB (by simp [*]; rfl) ?_ | refine IfG.t ?_ | refine IfG.f ?_ | (refine IfG.p (fun hg => ?_) (fun hg => ?_) <;> (try (have hg' := hg; simp at hg'))) | (refine IfG.n (fun hg => ?_) (fun hg => ?_) <;> (try (have hg' := hg; simp at hg'))) | (refine OutOK.gateP (fun hg => ?_) (fun hg => ?_) <;> (try (have hg' := hg; simp at hg'))) | (refine OutOK.gateN (fun hg => ?_) (fun hg => ?_) <;> (try (have hg' := hg; simp at hg'))) | (refine IfG.g (fun hg => ?_) (fun hg => ?_) <;> (try (have hg' := hg; simp at hg'))) | (refine OutOK.gate (fun hg => ?_) (fun hg => ?_) <;> (try (have hg' := hg; simp at hg'))) | (refine OutOK.callF [] (by simp [*]; rfl) (by simp [*]; rfl) (by simp [*]; rfl) hb126 (by apply cc <;> first | assumption | exact Hd.out (by assumption) | ((try (clear e0)); (try (clear e1)); (try (clear e2)); (try (clear e3)); (try (clear e4)); (try (clear e5)); (try (clear e6)); (try (clear e7)); (try (clear e8)); (try (clear e9)); (try (clear e10)); (try (clear e11)); omega)) ⟨by simp [*], by simp [*], by simp [*], by simp [*], by simp [*]⟩ (by simp [*]) (by simp [*]; rfl) ?_) | refine OutOK.run (by simp [*]; rfl) ?_ | refine AW.ret ?_ | refine AW.skip ?_ | refine AW.exit ?_ | refine fin_r ?_ | refine fin_n ?_ | refine AW.block ?_ | refine blockQ_n ?_ | refine blockQ_r ?_ | refine blockQ_e ?_ | refine blockQ_o rfl ?_)
  refine AW.loopL (α := Nat) (fun i => i ≤ l.length) (fun i => [(3, .rf 6000 []), (8, .c (.sc (.int .i64 (l.length : Int)))), (9, .c (.sc (.int .i64 (i : Int))))]) (fun i => [(6000, .sv (.sl false 5 (mixE l i)))]) (fun i => l.length - i) 0 (Nat.zero_le _) ⟨by simp, by simp [hm0.out], by simp⟩ ?_
  intro i hi
  rcases Nat.lt_or_ge i l.length with hl | hl
  · have e1 : wrap64 ((i : Int) + 1) = ((i + 1 : Nat) : Int) := by rw [w64 (by omega) (by omega)]; omega
    have ci := c_slices_Clone_int_int l[i].ck (hck'.out _ (List.getElem_mem hl))
    have hM := mixE_len l i hi
    have hat := mixE_at l i hl
    have hst : Hd ((mixE l i).set i (.ag (edtC false l[i])) = mixE l (i + 1)) := mixE_set l i hl
    generalize mixE l i = M at *
    have hiM : i < M.length := by omega
    simp only [edtC_eq] at hat
    have hat2 : M[i] = .ag [.sc (.int .i64 l[i].tm), .sc (.int .i64 l[i].ct), .sl true 1 (ints l[i].ck), .sc (.string l[i].it), .sc (.string l[i].tx)] := by rw [List.getElem?_eq_getElem hiM] at hat; simpa using hat
    repeat' (first | with_reducible refine OutOK.done ?_ | refine thenQ_n ?_ | refine thenQ_r ?_ | refine thenQ_e ?_ | refine AW.seq ?_ | refine AW.reg tok (by simp [*]; rfl) ?_ | refine AW.ifB (by simp [*]; rfl) ?_ | refine IfG.t ?_ | refine IfG.f ?_ | (refine IfG.p (fun hg => ?_) (fun hg => ?_) <;> (try (have hg' := hg; simp at hg'))) | (refine IfG.n (fun hg => ?_) (fun hg => ?_) <;> (try (have hg' := hg; simp at hg'))) | (refine OutOK.gateP (fun hg => ?_) (fun hg => ?_) <;> (try (have hg' := hg; simp at hg'))) | (refine OutOK.gateN (fun hg => ?_) (fun hg => ?_) <;> (try (have hg' := hg; simp at hg'))) | (refine IfG.g (fun hg => ?_) (fun hg => ?_) <;> (try (have hg' := hg; simp at hg'))) | (refine OutOK.gate (fun hg => ?_) (fun hg => ?_) <;> (try (have hg' := hg; simp at hg'))) | (refine OutOK.callF [] (by simp [*]; rfl) (by simp [*]; rfl) (by simp [*]; rfl) hb127 (by apply ci <;> first | assumption | exact Hd.out (by assumption) | ((try (clear e0)); (try (clear e1)); (try (clear e2)); (try (clear e3)); (try (clear e4)); (try (clear e5)); (try (clear e6)); (try (clear e7)); (try (clear e8)); (try (clear e9)); (try (clear e10)); (try (clear e11)); omega)) ⟨by simp [*], by simp [*], by simp [*], by simp [*], by simp [*]⟩ (by simp [*]) (by simp [*]; rfl) ?_) | refine OutOK.run (by simp [*]; rfl) ?_ | refine AW.ret ?_ | refine AW.skip ?_ | refine AW.exit ?_ | refine fin_r ?_ | refine fin_n ?_ | refine AW.block ?_ | refine blockQ_n ?_ | refine blockQ_r ?_ | refine blockQ_e ?_ | refine blockQ_o rfl ?_)
    exact ⟨i + 1, hl, ⟨by simp, by simp [← hst.out], by simp⟩, by ((try (clear e0)); (try (clear e1)); (try (clear e2)); (try (clear e3)); (try (clear e4)); (try (clear e5)); (try (clear e6)); (try (clear e7)); (try (clear e8)); (try (clear e9)); (try (clear e10)); (try (clear e11)); omega)⟩
  · have hii : i = l.length := by omega
    subst hii
    rw [hml.out]
    repeat' (first | with_reducible refine OutOK.done ?_ | refine thenQ_n ?_ | refine thenQ_r ?_ | refine thenQ_e ?_ | refine AW.seq ?_ | refine AW.reg tok (by simp [*]; rfl) ?_ | refine AW.ifB (by simp [*]; rfl) ?_ | refine IfG.t ?_ | refine IfG.f ?_ | (refine IfG.p (fun hg => ?_) (fun hg => ?_) <;> (try (have hg' := hg; simp at hg'))) | (refine IfG.n (fun hg => ?_) (fun hg => ?_) <;> (try (have hg' := hg; simp at hg'))) | (refine OutOK.gateP (fun hg => ?_) (fun hg => ?_) <;> (try (have hg' := hg; simp at hg'))) | (refine OutOK.gateN (fun hg => ?_) (fun hg => ?_) <;> (try (have hg' := hg; simp at hg'))) | (refine IfG.g (fun hg => ?_) (fun hg => ?_) <;> (try (have hg' := hg; simp at hg'))) | (refine OutOK.gate (fun hg => ?_) (fun hg => ?_) <;> (try (have hg' := hg; simp at hg'))) | refine OutOK.run (by simp [*]; rfl) ?_ | refine AW.ret ?_ | refine AW.skip ?_ | refine AW.exit ?_ | refine fin_r ?_ | refine fin_n ?_ | refine AW.block ?_ | refine blockQ_n ?_ | refine blockQ_r ?_ | refine blockQ_e ?_ | refine blockQ_o rfl ?_)
    simp [Try.f95]
end Go.Proofs.Ytbofobjofngoeaa.EngS


set_option linter.unusedSimpArgs false
set_option linter.unusedVariables false
set_option maxHeartbeats 4000000
set_option maxRecDepth 100000
namespace Go.Proofs.Ytbofobjofngoeaa.EngS
open Go Go.Proofs Go.Eng Go.RowKit
attribute [local irreducible] Go.RowKit.wrap64
attribute [local simp] optO sliceV
abbrev edtU (e : Edt) (u : Value) : D := .g [.sc (.int .i64 e.tm), .sc (.int .i64 e.ct), .sc u, .sc (.string e.it), .sc (.string e.tx)]
theorem c_impl_compareEdits_u (a : Edt) (u : Value) (hu : u.oneCell' = true) (b : Edt) : ACall Try.prog 76 [edtU a u, edtD b] [.x, .x] [int (cmpE a b)] := by
  refine ACall.of (N := 17) tok Try.func76 rfl rfl rfl (by simp) ?_
  repeat' (first | with_reducible refine OutOK.done ?_ | refine thenQ_n ?_ | refine thenQ_r ?_ | refine thenQ_e ?_ | refine AW.seq ?_ | refine AW.dreg tok mixed [3, 4, 6, 8]  [(0, false), (2, false), (5, false), (7, false), (1, false), (3, true), (6, true), (8, true), (4, true), (9, false), (10, false), (11, false), (12, false)] (by decide +kernel) rfl (by simp [*]; rfl) ?_ | refine AW.reg tok (by simp [*]; rfl) ?_ | refine AW.ifB (by simp [*]; rfl) ?_ | refine IfG.t ?_ | refine IfG.f ?_ | (refine IfG.p (fun hg => ?_) (fun hg => ?_) <;> (try (have hg' := hg; simp at hg'))) | (refine IfG.n (fun hg => ?_) (fun hg => ?_) <;> (try (have hg' := hg; simp at hg'))) | (refine OutOK.gateP (fun hg => ?_) (fun hg => ?_) <;> (try (have hg' := hg; simp at hg'))) | (refine OutOK.gateN (fun hg => ?_) (fun hg => ?_) <;> (try (have hg' := hg; simp at hg'))) | (refine IfG.g (fun hg => ?_) (fun hg => ?_) <;> (try (have hg' := hg; simp at hg'))) | (refine OutOK.gate (fun hg => ?_) (fun hg => ?_) <;> (try (have hg' := hg; simp at hg'))) | (refine OutOK.callF [] (by simp [*]; rfl) (by simp [*]; rfl) (by simp [*]; rfl) hb119 (by apply c_cmp_Or_int <;> first | assumption | exact Hd.out (by assumption) | ((try (clear e0)); (try (clear e1)); (try (clear e2)); (try (clear e3)); (try (clear e4)); (try (clear e5)); (try (clear e6)); (try (clear e7)); (try (clear e8)); (try (clear e9)); (try (clear e10)); (try (clear e11)); omega)) ⟨by simp [*], by simp [*], by simp [*], by simp [*], by simp [*]⟩ (by simp [*]) (by simp [*]; rfl) ?_) | (refine OutOK.callF [] (by simp [*]; rfl) (by simp [*]; rfl) (by simp [*]; rfl) hb120 (by apply c_cmp_Compare_int <;> first | assumption | exact Hd.out (by assumption) | ((try (clear e0)); (try (clear e1)); (try (clear e2)); (try (clear e3)); (try (clear e4)); (try (clear e5)); (try (clear e6)); (try (clear e7)); (try (clear e8)); (try (clear e9)); (try (clear e10)); (try (clear e11)); omega)) ⟨by simp [*], by simp [*], by simp [*], by simp [*], by simp [*]⟩ (by simp [*]) (by simp [*]; rfl) ?_) | refine OutOK.run (by simp [*]; rfl) ?_ | refine AW.ret ?_ | refine AW.skip ?_ | refine AW.exit ?_ | refine fin_r ?_ | refine fin_n ?_ | refine AW.block ?_ | refine blockQ_n ?_ | refine blockQ_r ?_ | refine blockQ_e ?_ | refine blockQ_o rfl ?_)
  simp [Try.f76, cmpE]
theorem c_impl_Precedes_u (a : Edt) (u : Value) (hu : u.oneCell' = true) (b : Edt) (h : b.ck.length ≤ 4611686018427387904) : ACall Try.prog 40 [edtU a u, edtD b] [.x, .x] [boo (precE a b)] := by
  have e1 : wrap64 ((b.ck.length : Int) - 1) = (b.ck.length : Int) - 1 := w64 (by omega) (by omega)
  have cc := c_impl_compareEdits_u a u hu b
  by_cases hz : a.tm = b.tm ∧ a.ct = b.ct
  · rw [cmpE_zero.2 hz] at cc
    have hp : precE a b = false := by simp [precE, hz]
    clear hz
    refine ACall.of (N := 29) tok Try.func40 rfl rfl rfl (by simp) ?_
    repeat' (first | with_reducible refine OutOK.done ?_ | refine thenQ_n ?_ | refine thenQ_r ?_ | refine thenQ_e ?_ | refine AW.seq ?_ | refine AW.dreg tok mixed [1, 8, 9, 10, 17, 21]  [(0, false), (1, true), (2, false), (3, false), (4, false), (5, false), (7, false), (6, false), (8, true), (9, true), (10, true), (11, false), (12, false), (13, false), (14, false), (16, false), (20, false), (15, false), (17, true), (18, false), (19, false), (21, true), (22, false), (23, false), (24, false)] (by decide +kernel) rfl (by simp [*]; rfl) ?_ | refine AW.reg tok (by simp [*]; rfl) ?_ | refine AW.ifB (by simp [*]; rfl) ?_ | refine IfG.t ?_ | refine IfG.f ?_ | (refine IfG.p (fun hg => ?_) (fun hg => ?_) <;> (try (have hg' := hg; simp at hg'))) | (refine IfG.n (fun hg => ?_) (fun hg => ?_) <;> (try (have hg' := hg; simp at hg'))) | (refine OutOK.gateP (fun hg => ?_) (fun hg => ?_) <;> (try (have hg' := hg; simp at hg'))) | (refine OutOK.gateN (fun hg => ?_) (fun hg => ?_) <;> (try (have hg' := hg; simp at hg'))) | (refine IfG.g (fun hg => ?_) (fun hg => ?_) <;> (try (have hg' := hg; simp at hg'))) | (refine OutOK.gate (fun hg => ?_) (fun hg => ?_) <;> (try (have hg' := hg; simp at hg'))) | (refine OutOK.callF [] (by simp [*]; rfl) (by simp [*]; rfl) (by simp [*]; rfl) hb76 (by apply cc <;> first | assumption | exact Hd.out (by assumption) | ((try (clear e0)); (try (clear e1)); (try (clear e2)); (try (clear e3)); (try (clear e4)); (try (clear e5)); (try (clear e6)); (try (clear e7)); (try (clear e8)); (try (clear e9)); (try (clear e10)); (try (clear e11)); omega)) ⟨by simp [*], by simp [*], by simp [*], by simp [*], by simp [*]⟩ (by simp [*]) (by simp [*]; rfl) ?_) | (refine OutOK.callF [] (by simp [*]; rfl) (by simp [*]; rfl) (by simp [*]; rfl) hb59 (by apply c_impl_within <;> first | assumption | exact Hd.out (by assumption) | ((try (clear e0)); (try (clear e1)); (try (clear e2)); (try (clear e3)); (try (clear e4)); (try (clear e5)); (try (clear e6)); (try (clear e7)); (try (clear e8)); (try (clear e9)); (try (clear e10)); (try (clear e11)); omega)) ⟨by simp [*], by simp [*], by simp [*], by simp [*], by simp [*]⟩ (by simp [*]) (by simp [*]; rfl) ?_) | refine OutOK.run (by simp [*]; rfl) ?_ | refine AW.ret ?_ | refine AW.skip ?_ | refine AW.exit ?_ | refine fin_r ?_ | refine fin_n ?_ | refine AW.block ?_ | refine blockQ_n ?_ | refine blockQ_r ?_ | refine blockQ_e ?_ | refine blockQ_o rfl ?_)
    simp [Try.f40, hp]
  have hcz : ¬ cmpE a b = 0 := fun e => hz (cmpE_zero.1 e)
  generalize cmpE a b = z at *
  have hk : Hd ((!(decide (a.tm = b.tm) && decide (a.ct = b.ct))) = true) := by simp only [Hd, Bool.not_eq_true', Bool.and_eq_false_iff, decide_eq_false_iff_not]; omega
  clear hz
  cases hR : inR 0 ((b.ck.length : Int) - 1) a.tm with
  | false =>
    have hp : precE a b = false := by simp [precE, hR]
    refine ACall.of (N := 29) tok Try.func40 rfl rfl rfl (by simp) ?_
    repeat' (first | with_reducible refine OutOK.done ?_ | refine thenQ_n ?_ | refine thenQ_r ?_ | refine thenQ_e ?_ | refine AW.seq ?_ | refine AW.dreg tok mixed [1, 8, 9, 10, 17, 21]  [(0, false), (1, true), (2, false), (3, false), (4, false), (5, false), (7, false), (6, false), (8, true), (9, true), (10, true), (11, false), (12, false), (13, false), (14, false), (16, false), (20, false), (15, false), (17, true), (18, false), (19, false), (21, true), (22, false), (23, false), (24, false)] (by decide +kernel) rfl (by simp [*]; rfl) ?_ | refine AW.reg tok (by simp [*]; rfl) ?_ | refine AW.ifB (by simp [*]; rfl) ?_ | refine IfG.t ?_ | refine IfG.f ?_ | (refine IfG.p (fun hg => ?_) (fun hg => ?_) <;> (try (have hg' := hg; simp at hg'))) | (refine IfG.n (fun hg => ?_) (fun hg => ?_) <;> (try (have hg' := hg; simp at hg'))) | (refine OutOK.gateP (fun hg => ?_) (fun hg => ?_) <;> (try (have hg' := hg; simp at hg'))) | (refine OutOK.gateN (fun hg => ?_) (fun hg => ?_) <;> (try (have hg' := hg; simp at hg'))) | (refine IfG.g (fun hg => ?_) (fun hg => ?_) <;> (try (have hg' := hg; simp at hg'))) | (refine OutOK.gate (fun hg => ?_) (fun hg => ?_) <;> (try (have hg' := hg; simp at hg'))) | (refine OutOK.callF [] (by simp [*]; rfl) (by simp [*]; rfl) (by simp [*]; rfl) hb76 (by apply cc <;> first | assumption | exact Hd.out (by assumption) | ((try (clear e0)); (try (clear e1)); (try (clear e2)); (try (clear e3)); (try (clear e4)); (try (clear e5)); (try (clear e6)); (try (clear e7)); (try (clear e8)); (try (clear e9)); (try (clear e10)); (try (clear e11)); omega)) ⟨by simp [*], by simp [*], by simp [*], by simp [*], by simp [*]⟩ (by simp [*]) (by simp [*]; rfl) ?_) | (refine OutOK.callF [] (by simp [*]; rfl) (by simp [*]; rfl) (by simp [*]; rfl) hb59 (by apply c_impl_within <;> first | assumption | exact Hd.out (by assumption) | ((try (clear e0)); (try (clear e1)); (try (clear e2)); (try (clear e3)); (try (clear e4)); (try (clear e5)); (try (clear e6)); (try (clear e7)); (try (clear e8)); (try (clear e9)); (try (clear e10)); (try (clear e11)); omega)) ⟨by simp [*], by simp [*], by simp [*], by simp [*], by simp [*]⟩ (by simp [*]) (by simp [*]; rfl) ?_) | refine OutOK.run (by simp [*]; rfl) ?_ | refine AW.ret ?_ | refine AW.skip ?_ | refine AW.exit ?_ | refine fin_r ?_ | refine fin_n ?_ | refine AW.block ?_ | refine blockQ_n ?_ | refine blockQ_r ?_ | refine blockQ_e ?_ | refine blockQ_o rfl ?_)
    all_goals simp [Try.f40, hp]
  | true =>
    obtain ⟨r1, r2⟩ := inR_iff.1 hR
    obtain ⟨n, hn⟩ : ∃ n : Nat, a.tm = (n : Int) := ⟨a.tm.toNat, by omega⟩
    have hnl : n < b.ck.length := by omega
    rw [hn] at hR
    have hp : Hd (precE a b = decide (a.ct ≤ b.ck[n])) := by rw [Hd, precE, hk.out, hn, hR]; simp [ckAt, hnl]
    clear r1 r2
    obtain ⟨tm, ct, ck, it, tx⟩ := a
    simp only at hn cc hp hR
    subst hn
    refine ACall.of (N := 29) tok Try.func40 rfl rfl rfl (by simp) ?_
    repeat' (first | with_reducible refine OutOK.done ?_ | refine thenQ_n ?_ | refine thenQ_r ?_ | refine thenQ_e ?_ | refine AW.seq ?_ | refine AW.dreg tok mixed [1, 8, 9, 10, 17, 21]  [(0, false), (1, true), (2, false), (3, false), (4, false), (5, false), (7, false), (6, false), (8, true), (9, true), (10, true), (11, false), (12, false), (13, false), (14, false), (16, false), (20, false), (15, false), (17, true), (18, false), (19, false), (21, true), (22, false), (23, false), (24, false)] (by decide +kernel) rfl (by simp [*]; rfl) ?_ | refine AW.reg tok (by simp [*]; rfl) ?_ | refine AW.ifB (by simp [*]; rfl) ?_ | refine IfG.t ?_ | refine IfG.f ?_ | (refine IfG.p (fun hg => ?_) (fun hg => ?_) <;> (try (have hg' := hg; simp at hg'))) | (refine IfG.n (fun hg => ?_) (fun hg => ?_) <;> (try (have hg' := hg; simp at hg'))) | (refine OutOK.gateP (fun hg => ?_) (fun hg => ?_) <;> (try (have hg' := hg; simp at hg'))) | (refine OutOK.gateN (fun hg => ?_) (fun hg => ?_) <;> (try (have hg' := hg; simp at hg'))) | (refine IfG.g (fun hg => ?_) (fun hg => ?_) <;> (try (have hg' := hg; simp at hg'))) | (refine OutOK.gate (fun hg => ?_) (fun hg => ?_) <;> (try (have hg' := hg; simp at hg'))) | (refine OutOK.callF [] (by simp [*]; rfl) (by simp [*]; rfl) (by simp [*]; rfl) hb76 (by apply cc <;> first | assumption | exact Hd.out (by assumption) | ((try (clear e0)); (try (clear e1)); (try (clear e2)); (try (clear e3)); (try (clear e4)); (try (clear e5)); (try (clear e6)); (try (clear e7)); (try (clear e8)); (try (clear e9)); (try (clear e10)); (try (clear e11)); omega)) ⟨by simp [*], by simp [*], by simp [*], by simp [*], by simp [*]⟩ (by simp [*]) (by simp [*]; rfl) ?_) | (refine OutOK.callF [] (by simp [*]; rfl) (by simp [*]; rfl) (by simp [*]; rfl) hb59 (by apply c_impl_within <;> first | assumption | exact Hd.out (by assumption) | ((try (clear e0)); (try (clear e1)); (try (clear e2)); (try (clear e3)); (try (clear e4)); (try (clear e5)); (try (clear e6)); (try (clear e7)); (try (clear e8)); (try (clear e9)); (try (clear e10)); (try (clear e11)); omega)) ⟨by simp [*], by simp [*], by simp [*], by simp [*], by simp [*]⟩ (by simp [*]) (by simp [*]; rfl) ?_) | refine OutOK.run (by simp [*]; rfl) ?_ | refine AW.ret ?_ | refine AW.skip ?_ | refine AW.exit ?_ | refine fin_r ?_ | refine fin_n ?_ | refine AW.block ?_ | refine blockQ_n ?_ | refine blockQ_r ?_ | refine blockQ_e ?_ | refine blockQ_o rfl ?_)
    all_goals simp [Try.f40, hp.out]
def knP (z x : Edt) : Bool := !(precE x z) && !(decide (cmpE x z = 0))
theorem c_impl_KnownBy_1 (l : List Edt) (L : Nat) (hL : L < l.length) (x : Edt) (hck : l[L].ck.length ≤ 3) : ACall Try.prog 96 [edtO x, .p [.sl true 5 (edts true l)], .p [.sc (.int .i64 (L : Int))]] [edtO x, .p [.sl true 5 (edts true l)], .p [.sc (.int .i64 (L : Int))]] [boo (knP l[L] x)] := by
  have hkn : Hd (knP l[L] x = (!(precE x l[L]) && !(decide (cmpE x l[L] = 0)))) := rfl
  have cpu := fun u hu => c_impl_Precedes_u x u hu l[L] (by omega)
  have ccu := fun u hu => c_impl_compareEdits_u x u hu l[L]
  generalize knP l[L] x = K at *
  generalize precE x l[L] = pe at *
  generalize cmpE x l[L] = z at *
  have cpu' : Hd _ := cpu
  have ccu' : Hd _ := ccu
  clear cpu ccu
  cases pe with
  | true =>
    have hk2 : K = false := by rw [hkn.out]; rfl
    subst hk2
    clear hkn
    refine ACall.of (N := 21) tok Try.func96 rfl rfl rfl (by simp) ?_
    refine AW.name 0 9999 100000003 (kk := 1) (es := ints x.ck) (by simp) (by simp; rfl) (fun u hu => ?_)
    have cp := cpu'.out u hu
    have cc := ccu'.out u hu
    repeat' (first | with_reducible refine AW.stopT ?_ | with_reducible refine OutOK.done ?_ | refine thenQ_n ?_ | refine thenQ_r ?_ | refine thenQ_e ?_ | refine AW.seq ?_ | refine AW.dreg tok mixed [1, 2, 3, 4, 9, 10, 11, 12]  [(0, false), (1, true), (2, true), (3, true), (4, true), (5, false), (6, false), (7, false), (8, false), (9, true), (10, true), (11, true), (12, true), (13, false), (14, false), (15, false), (16, false)] (by decide +kernel) rfl (by simp [*]; rfl) ?_ | refine AW.reg tok (by simp [*]; rfl) ?_ | refine AW.ifB (by simp [*]; rfl) ?_ | refine IfG.t ?_ | refine IfG.f ?_ | (refine IfG.p (fun hg => ?_) (fun hg => ?_) <;> (try (have hg' := hg; simp at hg'))) | (refine IfG.n (fun hg => ?_) (fun hg => ?_) <;> (try (have hg' := hg; simp at hg'))) | (refine OutOK.gateP (fun hg => ?_) (fun hg => ?_) <;> (try (have hg' := hg; simp at hg'))) | (refine OutOK.gateN (fun hg => ?_) (fun hg => ?_) <;> (try (have hg' := hg; simp at hg'))) | (refine IfG.g (fun hg => ?_) (fun hg => ?_) <;> (try (have hg' := hg; simp at hg'))) | (refine OutOK.gate (fun hg => ?_) (fun hg => ?_) <;> (try (have hg' := hg; simp at hg'))) | (refine OutOK.callF [] (by simp [*]; rfl) (by simp [*]; rfl) (by simp [*]; rfl) hb40 (by apply cp <;> first | assumption | exact Hd.out (by assumption) | ((try (clear e0)); (try (clear e1)); (try (clear e2)); (try (clear e3)); (try (clear e4)); (try (clear e5)); (try (clear e6)); (try (clear e7)); (try (clear e8)); (try (clear e9)); (try (clear e10)); (try (clear e11)); omega)) ⟨by simp [*], by simp [*], by simp [*], by simp [*], by simp [*]⟩ (by simp [*]) (by simp [*]; rfl) ?_) | (refine OutOK.callF [] (by simp [*]; rfl) (by simp [*]; rfl) (by simp [*]; rfl) hb76 (by apply cc <;> first | assumption | exact Hd.out (by assumption) | ((try (clear e0)); (try (clear e1)); (try (clear e2)); (try (clear e3)); (try (clear e4)); (try (clear e5)); (try (clear e6)); (try (clear e7)); (try (clear e8)); (try (clear e9)); (try (clear e10)); (try (clear e11)); omega)) ⟨by simp [*], by simp [*], by simp [*], by simp [*], by simp [*]⟩ (by simp [*]) (by simp [*]; rfl) ?_) | refine OutOK.run (by simp [*]; rfl) ?_ | refine AW.ret ?_ | refine AW.skip ?_ | refine AW.exit ?_ | refine fin_r ?_ | refine fin_n ?_ | refine AW.block ?_ | refine blockQ_n ?_ | refine blockQ_r ?_ | refine blockQ_e ?_ | refine blockQ_o rfl ?_)
    refine ⟨AW.knownG 9999 0 2 (n := 100000003) (p := []) (u := u) (by simp) (by simp; rfl) (by simp) (by simp; rfl) ?_⟩
    repeat' (first | with_reducible refine OutOK.done ?_ | refine thenQ_n ?_ | refine thenQ_r ?_ | refine thenQ_e ?_ | refine AW.seq ?_ | refine AW.dreg tok mixed [1, 2, 3, 4, 9, 10, 11, 12]  [(0, false), (1, true), (2, true), (3, true), (4, true), (5, false), (6, false), (7, false), (8, false), (9, true), (10, true), (11, true), (12, true), (13, false), (14, false), (15, false), (16, false)] (by decide +kernel) rfl (by simp [*]; rfl) ?_ | refine AW.reg tok (by simp [*]; rfl) ?_ | refine AW.ifB (by simp [*]; rfl) ?_ | refine IfG.t ?_ | refine IfG.f ?_ | (refine IfG.p (fun hg => ?_) (fun hg => ?_) <;> (try (have hg' := hg; simp at hg'))) | (refine IfG.n (fun hg => ?_) (fun hg => ?_) <;> (try (have hg' := hg; simp at hg'))) | (refine OutOK.gateP (fun hg => ?_) (fun hg => ?_) <;> (try (have hg' := hg; simp at hg'))) | (refine OutOK.gateN (fun hg => ?_) (fun hg => ?_) <;> (try (have hg' := hg; simp at hg'))) | (refine IfG.g (fun hg => ?_) (fun hg => ?_) <;> (try (have hg' := hg; simp at hg'))) | (refine OutOK.gate (fun hg => ?_) (fun hg => ?_) <;> (try (have hg' := hg; simp at hg'))) | refine OutOK.run (by simp [*]; rfl) ?_ | refine AW.ret ?_ | refine AW.skip ?_ | refine AW.exit ?_ | refine fin_r ?_ | refine fin_n ?_ | refine AW.block ?_ | refine blockQ_n ?_ | refine blockQ_r ?_ | refine blockQ_e ?_ | refine blockQ_o rfl ?_)
    simp [Try.f96]
  | false =>
    by_cases hz : z = 0
    · have hk2 : K = false := by rw [hkn.out, hz]; rfl
      subst hk2
      subst hz
      clear hkn
      refine ACall.of (N := 21) tok Try.func96 rfl rfl rfl (by simp) ?_
      refine AW.name 0 9999 100000003 (kk := 1) (es := ints x.ck) (by simp) (by simp; rfl) (fun u hu => ?_)
      have cp := cpu'.out u hu
      have cc := ccu'.out u hu
      repeat' (first | with_reducible refine AW.stopT ?_ | with_reducible refine OutOK.done ?_ | refine thenQ_n ?_ | refine thenQ_r ?_ | refine thenQ_e ?_ | refine AW.seq ?_ | refine AW.dreg tok mixed [1, 2, 3, 4, 9, 10, 11, 12]  [(0, false), (1, true), (2, true), (3, true), (4, true), (5, false), (6, false), (7, false), (8, false), (9, true), (10, true), (11, true), (12, true), (13, false), (14, false), (15, false), (16, false)] (by decide +kernel) rfl (by simp [*]; rfl) ?_ | refine AW.reg tok (by simp [*]; rfl) ?_ | refine AW.ifB (by simp [*]; rfl) ?_ | refine IfG.t ?_ | refine IfG.f ?_ | (refine IfG.p (fun hg => ?_) (fun hg => ?_) <;> (try (have hg' := hg; simp at hg'))) | (refine IfG.n (fun hg => ?_) (fun hg => ?_) <;> (try (have hg' := hg; simp at hg'))) | (refine OutOK.gateP (fun hg => ?_) (fun hg => ?_) <;> (try (have hg' := hg; simp at hg'))) | (refine OutOK.gateN (fun hg => ?_) (fun hg => ?_) <;> (try (have hg' := hg; simp at hg'))) | (refine IfG.g (fun hg => ?_) (fun hg => ?_) <;> (try (have hg' := hg; simp at hg'))) | (refine OutOK.gate (fun hg => ?_) (fun hg => ?_) <;> (try (have hg' := hg; simp at hg'))) | (refine OutOK.callF [] (by simp [*]; rfl) (by simp [*]; rfl) (by simp [*]; rfl) hb40 (by apply cp <;> first | assumption | exact Hd.out (by assumption) | ((try (clear e0)); (try (clear e1)); (try (clear e2)); (try (clear e3)); (try (clear e4)); (try (clear e5)); (try (clear e6)); (try (clear e7)); (try (clear e8)); (try (clear e9)); (try (clear e10)); (try (clear e11)); omega)) ⟨by simp [*], by simp [*], by simp [*], by simp [*], by simp [*]⟩ (by simp [*]) (by simp [*]; rfl) ?_) | (refine OutOK.callF [] (by simp [*]; rfl) (by simp [*]; rfl) (by simp [*]; rfl) hb76 (by apply cc <;> first | assumption | exact Hd.out (by assumption) | ((try (clear e0)); (try (clear e1)); (try (clear e2)); (try (clear e3)); (try (clear e4)); (try (clear e5)); (try (clear e6)); (try (clear e7)); (try (clear e8)); (try (clear e9)); (try (clear e10)); (try (clear e11)); omega)) ⟨by simp [*], by simp [*], by simp [*], by simp [*], by simp [*]⟩ (by simp [*]) (by simp [*]; rfl) ?_) | refine OutOK.run (by simp [*]; rfl) ?_ | refine AW.ret ?_ | refine AW.skip ?_ | refine AW.exit ?_ | refine fin_r ?_ | refine fin_n ?_ | refine AW.block ?_ | refine blockQ_n ?_ | refine blockQ_r ?_ | refine blockQ_e ?_ | refine blockQ_o rfl ?_)
      refine ⟨AW.knownG 9999 0 2 (n := 100000003) (p := []) (u := u) (by simp) (by simp; rfl) (by simp) (by simp; rfl) ?_⟩
      repeat' (first | with_reducible refine OutOK.done ?_ | refine thenQ_n ?_ | refine thenQ_r ?_ | refine thenQ_e ?_ | refine AW.seq ?_ | refine AW.dreg tok mixed [1, 2, 3, 4, 9, 10, 11, 12]  [(0, false), (1, true), (2, true), (3, true), (4, true), (5, false), (6, false), (7, false), (8, false), (9, true), (10, true), (11, true), (12, true), (13, false), (14, false), (15, false), (16, false)] (by decide +kernel) rfl (by simp [*]; rfl) ?_ | refine AW.reg tok (by simp [*]; rfl) ?_ | refine AW.ifB (by simp [*]; rfl) ?_ | refine IfG.t ?_ | refine IfG.f ?_ | (refine IfG.p (fun hg => ?_) (fun hg => ?_) <;> (try (have hg' := hg; simp at hg'))) | (refine IfG.n (fun hg => ?_) (fun hg => ?_) <;> (try (have hg' := hg; simp at hg'))) | (refine OutOK.gateP (fun hg => ?_) (fun hg => ?_) <;> (try (have hg' := hg; simp at hg'))) | (refine OutOK.gateN (fun hg => ?_) (fun hg => ?_) <;> (try (have hg' := hg; simp at hg'))) | (refine IfG.g (fun hg => ?_) (fun hg => ?_) <;> (try (have hg' := hg; simp at hg'))) | (refine OutOK.gate (fun hg => ?_) (fun hg => ?_) <;> (try (have hg' := hg; simp at hg'))) | refine OutOK.run (by simp [*]; rfl) ?_ | refine AW.ret ?_ | refine AW.skip ?_ | refine AW.exit ?_ | refine fin_r ?_ | refine fin_n ?_ | refine AW.block ?_ | refine blockQ_n ?_ | refine blockQ_r ?_ | refine blockQ_e ?_ | refine blockQ_o rfl ?_)
      simp [Try.f96]
    · have hk2 : K = true := by rw [hkn.out]; simp [hz]
      subst hk2
      clear hkn
      refine ACall.of (N := 21) tok Try.func96 rfl rfl rfl (by simp) ?_
      refine AW.name 0 9999 100000003 (kk := 1) (es := ints x.ck) (by simp) (by simp; rfl) (fun u hu => ?_)
      have cp := cpu'.out u hu
      have cc := ccu'.out u hu
      repeat' (first | with_reducible refine AW.stopT ?_ | with_reducible refine OutOK.done ?_ | refine thenQ_n ?_ | refine thenQ_r ?_ | refine thenQ_e ?_ | refine AW.seq ?_ | refine AW.dreg tok mixed [1, 2, 3, 4, 9, 10, 11, 12]  [(0, false), (1, true), (2, true), (3, true), (4, true), (5, false), (6, false), (7, false), (8, false), (9, true), (10, true), (11, true), (12, true), (13, false), (14, false), (15, false), (16, false)] (by decide +kernel) rfl (by simp [*]; rfl) ?_ | refine AW.reg tok (by simp [*]; rfl) ?_ | refine AW.ifB (by simp [*]; rfl) ?_ | refine IfG.t ?_ | refine IfG.f ?_ | (refine IfG.p (fun hg => ?_) (fun hg => ?_) <;> (try (have hg' := hg; simp at hg'))) | (refine IfG.n (fun hg => ?_) (fun hg => ?_) <;> (try (have hg' := hg; simp at hg'))) | (refine OutOK.gateP (fun hg => ?_) (fun hg => ?_) <;> (try (have hg' := hg; simp at hg'))) | (refine OutOK.gateN (fun hg => ?_) (fun hg => ?_) <;> (try (have hg' := hg; simp at hg'))) | (refine IfG.g (fun hg => ?_) (fun hg => ?_) <;> (try (have hg' := hg; simp at hg'))) | (refine OutOK.gate (fun hg => ?_) (fun hg => ?_) <;> (try (have hg' := hg; simp at hg'))) | (refine OutOK.callF [] (by simp [*]; rfl) (by simp [*]; rfl) (by simp [*]; rfl) hb40 (by apply cp <;> first | assumption | exact Hd.out (by assumption) | ((try (clear e0)); (try (clear e1)); (try (clear e2)); (try (clear e3)); (try (clear e4)); (try (clear e5)); (try (clear e6)); (try (clear e7)); (try (clear e8)); (try (clear e9)); (try (clear e10)); (try (clear e11)); omega)) ⟨by simp [*], by simp [*], by simp [*], by simp [*], by simp [*]⟩ (by simp [*]) (by simp [*]; rfl) ?_) | (refine OutOK.callF [] (by simp [*]; rfl) (by simp [*]; rfl) (by simp [*]; rfl) hb76 (by apply cc <;> first | assumption | exact Hd.out (by assumption) | ((try (clear e0)); (try (clear e1)); (try (clear e2)); (try (clear e3)); (try (clear e4)); (try (clear e5)); (try (clear e6)); (try (clear e7)); (try (clear e8)); (try (clear e9)); (try (clear e10)); (try (clear e11)); omega)) ⟨by simp [*], by simp [*], by simp [*], by simp [*], by simp [*]⟩ (by simp [*]) (by simp [*]; rfl) ?_) | refine OutOK.run (by simp [*]; rfl) ?_ | refine AW.ret ?_ | refine AW.skip ?_ | refine AW.exit ?_ | refine fin_r ?_ | refine fin_n ?_ | refine AW.block ?_ | refine blockQ_n ?_ | refine blockQ_r ?_ | refine blockQ_e ?_ | refine blockQ_o rfl ?_)
      refine ⟨AW.knownG 9999 0 2 (n := 100000003) (p := []) (u := u) (by simp) (by simp; rfl) (by simp) (by simp; rfl) ?_⟩
      repeat' (first | with_reducible refine OutOK.done ?_ | refine thenQ_n ?_ | refine thenQ_r ?_ | refine thenQ_e ?_ | refine AW.seq ?_ | refine AW.dreg tok mixed [1, 2, 3, 4, 9, 10, 11, 12]  [(0, false), (1, true), (2, true), (3, true), (4, true), (5, false), (6, false), (7, false), (8, false), (9, true), (10, true), (11, true), (12, true), (13, false), (14, false), (15, false), (16, false)] (by decide +kernel) rfl (by simp [*]; rfl) ?_ | refine AW.reg tok (by simp [*]; rfl) ?_ | refine AW.ifB (by simp [*]; rfl) ?_ | refine IfG.t ?_ | refine IfG.f ?_ | (refine IfG.p (fun hg => ?_) (fun hg => ?_) <;> (try (have hg' := hg; simp at hg'))) | (refine IfG.n (fun hg => ?_) (fun hg => ?_) <;> (try (have hg' := hg; simp at hg'))) | (refine OutOK.gateP (fun hg => ?_) (fun hg => ?_) <;> (try (have hg' := hg; simp at hg'))) | (refine OutOK.gateN (fun hg => ?_) (fun hg => ?_) <;> (try (have hg' := hg; simp at hg'))) | (refine IfG.g (fun hg => ?_) (fun hg => ?_) <;> (try (have hg' := hg; simp at hg'))) | (refine OutOK.gate (fun hg => ?_) (fun hg => ?_) <;> (try (have hg' := hg; simp at hg'))) | refine OutOK.run (by simp [*]; rfl) ?_ | refine AW.ret ?_ | refine AW.skip ?_ | refine AW.exit ?_ | refine fin_r ?_ | refine fin_n ?_ | refine AW.block ?_ | refine blockQ_n ?_ | refine blockQ_r ?_ | refine blockQ_e ?_ | refine blockQ_o rfl ?_)
      simp [Try.f96]
theorem c_IndexFunc_own (l : List Edt) (f : Nat) (C1 C2 : List PV) (p : Edt → Bool) (h : l.length ≤ 9223372036854775806) (hbf : HasBody Try.prog f) (cf : ∀ x ∈ l, ACall Try.prog f [edtO x, .p C1, .p C2] [edtO x, .p C1, .p C2] [boo (p x)]) :
    ACall Try.prog 124 [.v (.sl false 5 (edts false l)), .f f [C1, C2]] [.v (.sl false 5 (edts false l)), .f f [C1, C2]] [int (idx p l)] := by
  replace cf : Hd _ := cf
  refine ACall.of (N := 19) tok Try.func124 rfl rfl rfl (by simp) ?_
  repeat' (first | with_reducible refine OutOK.done ?_ | refine thenQ_n ?_ | refine thenQ_r ?_ | refine thenQ_e ?_ | refine AW.seq ?_ | refine AW.reg tok (by simp [*]; rfl) ?_ | refine AW.ifB (by simp [*]; rfl) ?_ | refine IfG.t ?_ | refine IfG.f ?_ | (refine IfG.p (fun hg => ?_) (fun hg => ?_) <;> (try (have hg' := hg; simp at hg'))) | (refine IfG.n (fun hg => ?_) (fun hg => ?_) <;> (try (have hg' := hg; simp at hg'))) | (refine OutOK.gateP (fun hg => ?_) (fun hg => ?_) <;> (try (have hg' := hg; simp at hg'))) | (refine OutOK.gateN (fun hg => ?_) (fun hg => ?_) <;> (try (have hg' := hg; simp at hg'))) | (refine IfG.g (fun hg => ?_) (fun hg => ?_) <;> (try (have hg' := hg; simp at hg'))) | (refine OutOK.gate (fun hg => ?_) (fun hg => ?_) <;> (try (have hg' := hg; simp at hg'))) | refine OutOK.run (by simp [*]; rfl) ?_ | refine AW.ret ?_ | refine AW.skip ?_ | refine AW.exit ?_ | refine fin_r ?_ | refine fin_n ?_ | refine AW.block ?_ | refine blockQ_n ?_ | refine blockQ_r ?_ | refine blockQ_e ?_ | refine blockQ_o rfl ?_)
  refine AW.loopL (fun i => i ≤ l.length ∧ Hd ((l.take i).any p = false)) (fun i => [(0, .rf 100000000 []), (1, .fn f [.pt 100000051 [] 0, .pt 100000052 [] 0]), (7, .c (.sc (.int .i64 (l.length : Int)))), (8, .c (.sc (.int .i64 (i : Int))))]) (fun _ => [(100000000, .sv (.sl false 5 (edts false l))), (100000051, .bx C1), (100000052, .bx C2)]) (fun i => l.length - i) 0 ⟨Nat.zero_le _, by simp [Hd]⟩ ⟨by simp, by simp, by simp⟩ ?_
  rintro i ⟨hi, hs⟩
  rcases Nat.lt_or_ge i l.length with hl | hl
  · have e1 : wrap64 ((i : Int) + 1) = ((i + 1 : Nat) : Int) := by rw [w64 (by omega) (by omega)]; omega
    have cs := cf.out l[i] (List.getElem_mem hl)
    have hself : l.set i ⟨l[i].tm, l[i].ct, l[i].ck, l[i].it, l[i].tx⟩ = l := List.set_getElem_self hl
    cases hp : p l[i] with
    | true =>
      rw [hp] at cs
      have hf : idx p l = (i : Int) := idx_at hl hs.out hp
      clear cf
      repeat' (first | with_reducible refine OutOK.done ?_ | refine thenQ_n ?_ | refine thenQ_r ?_ | refine thenQ_e ?_ | refine AW.seq ?_ | refine AW.reg tok (by simp [*]; rfl) ?_ | refine AW.ifB (by simp [*]; rfl) ?_ | refine IfG.t ?_ | refine IfG.f ?_ | (refine IfG.p (fun hg => ?_) (fun hg => ?_) <;> (try (have hg' := hg; simp at hg'))) | (refine IfG.n (fun hg => ?_) (fun hg => ?_) <;> (try (have hg' := hg; simp at hg'))) | (refine OutOK.gateP (fun hg => ?_) (fun hg => ?_) <;> (try (have hg' := hg; simp at hg'))) | (refine OutOK.gateN (fun hg => ?_) (fun hg => ?_) <;> (try (have hg' := hg; simp at hg'))) | (refine IfG.g (fun hg => ?_) (fun hg => ?_) <;> (try (have hg' := hg; simp at hg'))) | (refine OutOK.gate (fun hg => ?_) (fun hg => ?_) <;> (try (have hg' := hg; simp at hg'))) | (refine OutOK.callF [true] (by simp [*]; rfl) (by simp [*]; rfl) (by simp [*]; rfl) hbf (by apply cs <;> first | assumption | exact Hd.out (by assumption) | ((try (clear e0)); (try (clear e1)); (try (clear e2)); (try (clear e3)); (try (clear e4)); (try (clear e5)); (try (clear e6)); (try (clear e7)); (try (clear e8)); (try (clear e9)); (try (clear e10)); (try (clear e11)); omega)) ⟨by simp [*], by simp [*], by simp [*], by simp [*], by simp [*]⟩ (by simp [*]) (by simp [*]; rfl) ?_) | refine OutOK.run (by simp [*]; rfl) ?_ | refine AW.ret ?_ | refine AW.skip ?_ | refine AW.exit ?_ | refine fin_r ?_ | refine fin_n ?_ | refine AW.block ?_ | refine blockQ_n ?_ | refine blockQ_r ?_ | refine blockQ_e ?_ | refine blockQ_o rfl ?_)
      simp [Try.f124, hf, hself]
    | false =>
      rw [hp] at cs
      have hs2 : Hd ((l.take (i + 1)).any p = false) := any_more hl hs.out hp
      clear cf
      repeat' (first | with_reducible refine OutOK.done ?_ | refine thenQ_n ?_ | refine thenQ_r ?_ | refine thenQ_e ?_ | refine AW.seq ?_ | refine AW.reg tok (by simp [*]; rfl) ?_ | refine AW.ifB (by simp [*]; rfl) ?_ | refine IfG.t ?_ | refine IfG.f ?_ | (refine IfG.p (fun hg => ?_) (fun hg => ?_) <;> (try (have hg' := hg; simp at hg'))) | (refine IfG.n (fun hg => ?_) (fun hg => ?_) <;> (try (have hg' := hg; simp at hg'))) | (refine OutOK.gateP (fun hg => ?_) (fun hg => ?_) <;> (try (have hg' := hg; simp at hg'))) | (refine OutOK.gateN (fun hg => ?_) (fun hg => ?_) <;> (try (have hg' := hg; simp at hg'))) | (refine IfG.g (fun hg => ?_) (fun hg => ?_) <;> (try (have hg' := hg; simp at hg'))) | (refine OutOK.gate (fun hg => ?_) (fun hg => ?_) <;> (try (have hg' := hg; simp at hg'))) | (refine OutOK.callF [true] (by simp [*]; rfl) (by simp [*]; rfl) (by simp [*]; rfl) hbf (by apply cs <;> first | assumption | exact Hd.out (by assumption) | ((try (clear e0)); (try (clear e1)); (try (clear e2)); (try (clear e3)); (try (clear e4)); (try (clear e5)); (try (clear e6)); (try (clear e7)); (try (clear e8)); (try (clear e9)); (try (clear e10)); (try (clear e11)); omega)) ⟨by simp [*], by simp [*], by simp [*], by simp [*], by simp [*]⟩ (by simp [*]) (by simp [*]; rfl) ?_) | refine OutOK.run (by simp [*]; rfl) ?_ | refine AW.ret ?_ | refine AW.skip ?_ | refine AW.exit ?_ | refine fin_r ?_ | refine fin_n ?_ | refine AW.block ?_ | refine blockQ_n ?_ | refine blockQ_r ?_ | refine blockQ_e ?_ | refine blockQ_o rfl ?_)
      exact ⟨i + 1, ⟨hl, hs2⟩, ⟨by simp, by simp [hself], by simp⟩, by ((try (clear e0)); (try (clear e1)); (try (clear e2)); (try (clear e3)); (try (clear e4)); (try (clear e5)); (try (clear e6)); (try (clear e7)); (try (clear e8)); (try (clear e9)); (try (clear e10)); (try (clear e11)); omega)⟩
  · have hf : idx p l = -1 := idx_none (any_end hl hs.out)
    have hn : ¬ i < l.length := by omega
    clear cf
    repeat' (first | with_reducible refine OutOK.done ?_ | refine thenQ_n ?_ | refine thenQ_r ?_ | refine thenQ_e ?_ | refine AW.seq ?_ | refine AW.reg tok (by simp [*]; rfl) ?_ | refine AW.ifB (by simp [*]; rfl) ?_ | refine IfG.t ?_ | refine IfG.f ?_ | (refine IfG.p (fun hg => ?_) (fun hg => ?_) <;> (try (have hg' := hg; simp at hg'))) | (refine IfG.n (fun hg => ?_) (fun hg => ?_) <;> (try (have hg' := hg; simp at hg'))) | (refine OutOK.gateP (fun hg => ?_) (fun hg => ?_) <;> (try (have hg' := hg; simp at hg'))) | (refine OutOK.gateN (fun hg => ?_) (fun hg => ?_) <;> (try (have hg' := hg; simp at hg'))) | (refine IfG.g (fun hg => ?_) (fun hg => ?_) <;> (try (have hg' := hg; simp at hg'))) | (refine OutOK.gate (fun hg => ?_) (fun hg => ?_) <;> (try (have hg' := hg; simp at hg'))) | refine OutOK.run (by simp [*]; rfl) ?_ | refine AW.ret ?_ | refine AW.skip ?_ | refine AW.exit ?_ | refine fin_r ?_ | refine fin_n ?_ | refine AW.block ?_ | refine blockQ_n ?_ | refine blockQ_r ?_ | refine blockQ_e ?_ | refine blockQ_o rfl ?_)
    simp [Try.f124, hf]
end Go.Proofs.Ytbofobjofngoeaa.EngS


set_option linter.unusedSimpArgs false
set_option linter.unusedVariables false
set_option maxHeartbeats 4000000
set_option maxRecDepth 10000
namespace Go.Proofs.Ytbofobjofngoeaa.EngS
open Go Go.Proofs Go.Eng Go.RowKit
end Go.Proofs.Ytbofobjofngoeaa.EngS


set_option linter.unusedSimpArgs false
set_option linter.unusedVariables false
set_option maxHeartbeats 4000000
set_option maxRecDepth 10000
namespace Go.Proofs.Ytbofobjofngoeaa.EngS
open Go Go.Proofs Go.Eng Go.RowKit
def gvn (l : List Smp) (i : Nat) : List Int := (List.range (l.length + 1)).map fun (p : Nat) => givI l p i
@[simp] theorem gvn_len (l i) : (gvn l i).length = l.length + 1 := by simp [gvn]
theorem gvn_zero (l) : gvn l 0 = List.replicate (l.length + 1) 0 := by
  apply List.ext_getElem
  · simp
  · intro j h1 h2; simp only [gvn, List.getElem_map, List.getElem_range, givI_zero, List.getElem_replicate]
end Go.Proofs.Ytbofobjofngoeaa.EngS


set_option linter.unusedSimpArgs false
set_option linter.unusedVariables false
set_option maxHeartbeats 4000000
set_option maxRecDepth 100000
namespace Go.Proofs.Ytbofobjofngoeaa.EngS
open Go Go.Proofs Go.Eng Go.RowKit
attribute [local irreducible] Go.RowKit.wrap64
end Go.Proofs.Ytbofobjofngoeaa.EngS


set_option linter.unusedSimpArgs false
set_option linter.unusedVariables false
set_option maxHeartbeats 4000000
set_option maxRecDepth 100000
namespace Go.Proofs.Ytbofobjofngoeaa.EngS
open Go Go.Proofs Go.Eng Go.RowKit
attribute [local irreducible] Go.RowKit.wrap64
def hasI (o : List Int) (i : Nat) : Bool := o.any fun x => decide (x = (i : Int))
def frB (l : List Edt) (o : List Int) (i k : Nat) : Bool := !(hasI o i) && (List.range k).all fun j => hasI o j || !(precE (l[j]?.getD default) (l[i]?.getD default))
def fre (l : List Edt) (o : List Int) (i : Nat) : Bool := frB l o i l.length
def nxtI (l : List Edt) (o : List Int) : Nat := (List.range l.length).findIdx (fre l o)
def ordL (l : List Edt) : Nat → List Int
  | 0 => []
  | q + 1 => ordL l q ++ [(nxtI l (ordL l q) : Int)]
@[simp] theorem ordL_len (l q) : (ordL l q).length = q := by
  induction q with
  | zero => rfl
  | succ q ih => simp [ordL, ih]
def bls (xs : List Bool) : List PV := xs.map fun x => .sc (.bool x)
@[simp] theorem bls_len (xs) : (bls xs).length = xs.length := by simp [bls]
@[simp] theorem bls_get (xs : List Bool) (i : Nat) : (bls xs)[i]? = (xs[i]?).map fun x => .sc (.bool x) := by simp [bls]
@[simp] theorem bls_at (xs : List Bool) (i : Nat) (h : i < (bls xs).length) : (bls xs)[i] = .sc (.bool (xs[i]'(by simpa using h))) := by simp [bls]
@[simp] theorem bls_frz (xs) : PV.frzs (bls xs) = bls xs := by simp [bls]
@[simp] theorem rep_bls (n : Nat) (x : Bool) : List.replicate n (PV.sc (.bool x)) = bls (List.replicate n x) := by simp [bls]
@[simp] theorem bls_set (xs : List Bool) (i : Nat) (x : Bool) : (bls xs).set i (.sc (.bool x)) = bls (xs.set i x) := by simp [bls, List.map_set]
@[simp] theorem bls_nofz (xs : List Bool) : PV.nofzs (bls xs) = true := by
  induction xs with
  | nil => rfl
  | cons x xs ih => simpa [bls] using ih
@[simp] theorem bls_coks (xs : List Bool) : PV.coks (bls xs) = true := by
  induction xs with
  | nil => rfl
  | cons x xs ih => simpa [bls] using ih
def dnL (l : List Edt) (o : List Int) : List Bool := (List.range l.length).map (hasI o)
@[simp] theorem dnL_len (l o) : (dnL l o).length = l.length := by simp [dnL]
@[simp] theorem dnL_at (l : List Edt) (o : List Int) (i : Nat) (h : i < (dnL l o).length) : (dnL l o)[i] = hasI o i := by simp [dnL]
theorem dnL_nil (l : List Edt) : dnL l [] = List.replicate l.length false := by
  apply List.ext_getElem
  · simp
  · intro j h1 h2; simp [hasI]
end Go.Proofs.Ytbofobjofngoeaa.EngS


set_option linter.unusedSimpArgs false
set_option linter.unusedVariables false
set_option maxHeartbeats 4000000
set_option maxRecDepth 100000
namespace Go.Proofs.Ytbofobjofngoeaa.EngS
open Go Go.Proofs Go.Eng Go.RowKit
attribute [local irreducible] Go.RowKit.wrap64
end Go.Proofs.Ytbofobjofngoeaa.EngS


set_option linter.unusedSimpArgs false
set_option linter.unusedVariables false
set_option maxHeartbeats 4000000
set_option maxRecDepth 100000
namespace Go.Proofs.Ytbofobjofngoeaa.EngS
open Go Go.Proofs Go.Eng Go.RowKit
attribute [local irreducible] Go.RowKit.wrap64
end Go.Proofs.Ytbofobjofngoeaa.EngS


set_option linter.unusedSimpArgs false
set_option linter.unusedVariables false
set_option maxHeartbeats 4000000
set_option maxRecDepth 100000
namespace Go.Proofs.Ytbofobjofngoeaa.EngS
open Go Go.Proofs Go.Eng Go.RowKit
attribute [local irreducible] Go.RowKit.wrap64
attribute [local simp] optO sliceV
def JkE (t : PV) : Prop := ∃ a b c d e, c.isAg = false ∧ t = .ag [.sc (.int .i64 a), .sc (.int .i64 b), c, .sc (.string d), .sc (.string e)]
structure DInv (l : List Edt) (p : Edt → Bool) (j : Nat) (M : List PV) : Prop where
  jl : j ≤ l.length
  len : M.length = l.length
  lt : ((l.take j).filter fun x => !p x).length < j
  kept : ∀ m (h : m < ((l.take j).filter fun x => !p x).length), M[m]? = some (.ag (edtC false ((l.take j).filter fun x => !p x)[m]))
  jk : ∀ m, ((l.take j).filter fun x => !p x).length ≤ m → m < j → ∃ t, M[m]? = some t ∧ JkE t
  rest : ∀ m (h : m < l.length), j ≤ m → M[m]? = some (.ag (edtC false l[m]))
theorem filt_yes {l : List Edt} {p : Edt → Bool} {j : Nat} (h : j < l.length) (hp : p l[j] = true) : (l.take (j + 1)).filter (fun x => !p x) = (l.take j).filter (fun x => !p x) := by
  rw [List.take_succ_eq_append_getElem h, List.filter_append]; simp [hp]
theorem filt_no {l : List Edt} {p : Edt → Bool} {j : Nat} (h : j < l.length) (hp : p l[j] = false) : (l.take (j + 1)).filter (fun x => !p x) = (l.take j).filter (fun x => !p x) ++ [l[j]] := by
  rw [List.take_succ_eq_append_getElem h, List.filter_append]; simp [hp]
abbrev jkX (x : Edt) : PV := .ag [.sc (.int .i64 x.tm), .sc (.int .i64 x.ct), .xx, .sc (.string x.it), .sc (.string x.tx)]
theorem jkX_ok (x : Edt) : JkE (jkX x) := ⟨x.tm, x.ct, .xx, x.it, x.tx, rfl, rfl⟩
theorem DInv.skip {l : List Edt} {p : Edt → Bool} {j : Nat} {M : List PV} (h : DInv l p j M) (hj : j < l.length) (hp : p l[j] = true) : DInv l p (j + 1) (M.set j (jkX l[j])) := by
  have hf := filt_yes hj hp
  refine ⟨hj, by rw [List.length_set]; exact h.len, by rw [hf]; have := h.lt; omega, ?_, ?_, ?_⟩
  · intro m hm
    rw [hf] at hm
    have := h.lt
    rw [List.getElem?_set_ne (by omega)]
    simp only [hf]
    exact h.kept m hm
  · intro m h1 h2
    rw [hf] at h1
    rcases Nat.lt_succ_iff_lt_or_eq.1 h2 with h3 | rfl
    · rw [List.getElem?_set_ne (by omega)]; exact h.jk m h1 h3
    · exact ⟨_, List.getElem?_set_self (by rw [h.len]; exact hj), jkX_ok _⟩
  · intro m hm h1
    rw [List.getElem?_set_ne (by omega)]; exact h.rest m hm (by omega)
theorem DInv.keep {l : List Edt} {p : Edt → Bool} {j q : Nat} {M : List PV} (h : DInv l p j M) (hj : j < l.length) (hp : p l[j] = false) (hq : ((l.take j).filter fun x => !p x).length = q) : DInv l p (j + 1) ((M.set j (jkX l[j])).set q (.ag (edtC false l[j]))) := by
  have hf := filt_no hj hp
  have hlt := h.lt
  rw [hq] at hlt
  refine ⟨hj, by rw [List.length_set, List.length_set]; exact h.len, by rw [hf, List.length_append]; simp only [List.length_cons, List.length_nil]; omega, ?_, ?_, ?_⟩
  · intro m hm
    rw [hf, List.length_append, List.length_cons, List.length_nil, hq] at hm
    simp only [hf]
    rcases Nat.lt_succ_iff_lt_or_eq.1 (show m < q + 1 by omega) with h3 | rfl
    · rw [List.getElem?_set_ne (by omega), List.getElem?_set_ne (by omega), List.getElem_append_left (by omega)]
      exact h.kept m (by omega)
    · rw [List.getElem?_set_self (by rw [List.length_set, h.len]; omega), List.getElem_append_right (by omega)]
      simp [hq]
  · intro m h1 h2
    rw [hf, List.length_append, List.length_cons, List.length_nil, hq] at h1
    rw [List.getElem?_set_ne (by omega)]
    rcases Nat.lt_succ_iff_lt_or_eq.1 h2 with h3 | rfl
    · rw [List.getElem?_set_ne (by omega)]; exact h.jk m (by omega) h3
    · exact ⟨_, List.getElem?_set_self (by rw [h.len]; exact hj), jkX_ok _⟩
  · intro m hm h1
    rw [List.getElem?_set_ne (by omega), List.getElem?_set_ne (by omega)]; exact h.rest m hm (by omega)
theorem DInv.start {l : List Edt} {p : Edt → Bool} {i : Nat} (hi : i < l.length) (hp : p l[i] = true) (hs : (l.take i).any p = false) : DInv l p (i + 1) (edts false l) := by
  have hall : (l.take i).filter (fun x => !p x) = l.take i := by
    rw [List.filter_eq_self]
    intro x hx
    have := List.any_eq_false.1 hs x hx
    simpa using this
  have hf : (l.take (i + 1)).filter (fun x => !p x) = l.take i := by rw [filt_yes hi hp, hall]
  have hl : (l.take i).length = i := by simp; omega
  refine ⟨hi, by simp, by rw [hf, hl]; omega, ?_, ?_, ?_⟩
  · intro m hm
    rw [hf, hl] at hm
    simp only [hf, els_get]
    rw [List.getElem?_eq_getElem (by omega)]
    simp
  · intro m h1 h2
    rw [hf, hl] at h1
    have : m = i := by omega
    subst this
    exact ⟨_, by rw [els_get, List.getElem?_eq_getElem hi]; rfl, ⟨_, _, .sl false 1 (ints l[m].ck), _, _, rfl, rfl⟩⟩
  · intro m hm h1
    rw [els_get, List.getElem?_eq_getElem hm]; rfl
theorem DInv.fin {l : List Edt} {p : Edt → Bool} {M : List PV} (h : DInv l p l.length M) (R : List PV) : (M.take ((l.filter fun x => !p x).length) ++ R).take ((l.filter fun x => !p x).length) = edts false (l.filter fun x => !p x) := by
  have hk := h.kept
  have hlt := h.lt
  simp only [List.take_length] at hk hlt
  apply List.ext_getElem?
  intro m
  rw [List.getElem?_take]
  split
  · rename_i hm
    rw [List.getElem?_append_left (by simp [h.len]; omega), List.getElem?_take, if_pos hm, hk m hm, els_get, List.getElem?_eq_getElem hm]; rfl
  · rename_i hm
    rw [List.getElem?_eq_none (by simp; omega)]
theorem idx_one {α : Type} (p : α → Bool) (xs : List α) : (idx p xs = -1 ∧ xs.any p = false) ∨ ∃ i, ∃ h : i < xs.length, idx p xs = (i : Int) ∧ p xs[i] = true ∧ (xs.take i).any p = false := by
  cases h : xs.findIdx? p with
  | none =>
    left
    have h2 : xs.any p = false := by rw [List.any_eq_false]; intro x hx; rw [List.findIdx?_eq_none_iff] at h; simpa using h x hx
    exact ⟨idx_none h2, h2⟩
  | some i =>
    right
    rw [List.findIdx?_eq_some_iff_getElem] at h
    obtain ⟨hi, h1, h2⟩ := h
    have h3 : (xs.take i).any p = false := by
      rw [List.any_eq_false]
      intro x hx
      obtain ⟨m, hm, rfl⟩ := List.getElem_of_mem hx
      rw [List.length_take] at hm
      rw [List.getElem_take]
      have := h2 m (by omega)
      simpa using this
    exact ⟨i, hi, idx_at hi h3 h1, h1, h3⟩
theorem c_DeleteFunc_edt (l : List Edt) (f : Nat) (C1 C2 : List PV) (p : Edt → Bool) (h : l.length ≤ 1048576) (hbf : HasBody Try.prog f) (cf : ∀ x ∈ l, ACall Try.prog f [edtO x, .p C1, .p C2] [edtO x, .p C1, .p C2] [boo (p x)]) :
    ACall Try.prog 94 [.v (.sl false 5 (edts false l)), .f f [C1, C2]] [.x, .f f [C1, C2]] [.v (.sl false 5 (edts false (l.filter fun x => !p x)))] := by
  have ci := c_IndexFunc_own l f C1 C2 p (by omega) hbf cf
  replace cf : Hd _ := cf
  rcases idx_one p l with ⟨hi, ha⟩ | ⟨i, hil, hi, hp, hs⟩
  · rw [hi] at ci
    have hall : l.filter (fun x => !p x) = l := by
      rw [List.filter_eq_self]
      intro x hx
      have := List.any_eq_false.1 ha x hx
      simpa using this
    rw [hall]
    clear ha hall hi
    refine ACall.of (N := 42) tok Try.func94 rfl rfl rfl (by simp) ?_
    repeat' (first | with_reducible refine OutOK.done ?_ | refine thenQ_n ?_ | refine thenQ_r ?_ | refine thenQ_e ?_ | refine AW.seq ?_ | refine AW.reg tok (by simp [*]; rfl) ?_ | refine AW.ifB (by simp [*]; rfl) ?_ | refine IfG.t ?_ | refine IfG.f ?_ | (refine IfG.p (fun hg => ?_) (fun hg => ?_) <;> (try (have hg' := hg; simp at hg'))) | (refine IfG.n (fun hg => ?_) (fun hg => ?_) <;> (try (have hg' := hg; simp at hg'))) | (refine OutOK.gateP (fun hg => ?_) (fun hg => ?_) <;> (try (have hg' := hg; simp at hg'))) | (refine OutOK.gateN (fun hg => ?_) (fun hg => ?_) <;> (try (have hg' := hg; simp at hg'))) | (refine IfG.g (fun hg => ?_) (fun hg => ?_) <;> (try (have hg' := hg; simp at hg'))) | (refine OutOK.gate (fun hg => ?_) (fun hg => ?_) <;> (try (have hg' := hg; simp at hg'))) | (refine OutOK.callF [true, true] (by simp [*]; rfl) (by simp [*]; rfl) (by simp [*]; rfl) hb124 (by apply ci <;> first | assumption | exact Hd.out (by assumption) | ((try (clear e0)); (try (clear e1)); (try (clear e2)); (try (clear e3)); (try (clear e4)); (try (clear e5)); (try (clear e6)); (try (clear e7)); (try (clear e8)); (try (clear e9)); (try (clear e10)); (try (clear e11)); omega)) ⟨by simp [*], by simp [*], by simp [*], by simp [*], by simp [*]⟩ (by simp [*]) (by simp [*]; rfl) ?_) | refine OutOK.run (by simp [*]; rfl) ?_ | refine AW.ret ?_ | refine AW.skip ?_ | refine AW.exit ?_ | refine fin_r ?_ | refine fin_n ?_ | refine AW.block ?_ | refine blockQ_n ?_ | refine blockQ_r ?_ | refine blockQ_e ?_ | refine blockQ_o rfl ?_)
    simp [Try.f94]
  rw [hi] at ci
  have e0 : wrap64 ((i : Int) + 1) = ((i + 1 : Nat) : Int) := by rw [w64 (by omega) (by omega)]; omega
  have hin : ¬ (i : Int) = -1 := by omega
  have hst : Hd (DInv l p (i + 1) (edts false l)) := DInv.start hil hp hs
  have hq0 : Hd (((l.take (i + 1)).filter fun x => !p x).length = i) := by
    have hall : (l.take i).filter (fun x => !p x) = l.take i := by
      rw [List.filter_eq_self]
      intro x hx
      have := List.any_eq_false.1 hs x hx
      simpa using this
    rw [Hd, filt_yes hil hp, hall, List.length_take]; omega
  clear hi hp hs
  refine ACall.of (N := 42) tok Try.func94 rfl rfl rfl (by simp) ?_
  repeat' (first | with_reducible refine OutOK.done ?_ | refine thenQ_n ?_ | refine thenQ_r ?_ | refine thenQ_e ?_ | refine AW.seq ?_ | refine AW.reg tok (by simp [*]; rfl) ?_ | refine AW.ifB (by simp [*]; rfl) ?_ | refine IfG.t ?_ | refine IfG.f ?_ | (refine IfG.p (fun hg => ?_) (fun hg => ?_) <;> (try (have hg' := hg; simp at hg'))) | (refine IfG.n (fun hg => ?_) (fun hg => ?_) <;> (try (have hg' := hg; simp at hg'))) | (refine OutOK.gateP (fun hg => ?_) (fun hg => ?_) <;> (try (have hg' := hg; simp at hg'))) | (refine OutOK.gateN (fun hg => ?_) (fun hg => ?_) <;> (try (have hg' := hg; simp at hg'))) | (refine IfG.g (fun hg => ?_) (fun hg => ?_) <;> (try (have hg' := hg; simp at hg'))) | (refine OutOK.gate (fun hg => ?_) (fun hg => ?_) <;> (try (have hg' := hg; simp at hg'))) | (refine OutOK.callF [true, true] (by simp [*]; rfl) (by simp [*]; rfl) (by simp [*]; rfl) hb124 (by apply ci <;> first | assumption | exact Hd.out (by assumption) | ((try (clear e0)); (try (clear e1)); (try (clear e2)); (try (clear e3)); (try (clear e4)); (try (clear e5)); (try (clear e6)); (try (clear e7)); (try (clear e8)); (try (clear e9)); (try (clear e10)); (try (clear e11)); omega)) ⟨by simp [*], by simp [*], by simp [*], by simp [*], by simp [*]⟩ (by simp [*]) (by simp [*]; rfl) ?_) | refine OutOK.run (by simp [*]; rfl) ?_ | refine AW.ret ?_ | refine AW.skip ?_ | refine AW.exit ?_ | refine fin_r ?_ | refine fin_n ?_ | refine AW.block ?_ | refine blockQ_n ?_ | refine blockQ_r ?_ | refine blockQ_e ?_ | refine blockQ_o rfl ?_)
  refine AW.loopL (α := Nat × Nat × List PV) (fun z => Hd (DInv l p z.1 z.2.2) ∧ Hd (((l.take z.1).filter fun x => !p x).length = z.2.1)) (fun z => [(0, .rf 100000000 []), (1, .fn f [.pt 100000051 [] 0, .pt 100000052 [] 0]), (5, .c (.sc (.int .i64 (z.2.1 : Int)))), (6, .c (.sc (.int .i64 (z.1 : Int))))]) (fun z => [(100000000, .sv (.sl false 5 z.2.2)), (100000051, .bx C1), (100000052, .bx C2)]) (fun z => l.length - z.1) (i + 1, i, edts false l) ⟨hst, hq0⟩ ⟨by simp, by simp, by simp⟩ ?_
  rintro ⟨j, q, M⟩ ⟨hinv, hq⟩
  simp only at hinv hq
  have hM := hinv.out.len
  have hjl := hinv.out.jl
  have hqj := hinv.out.lt
  rw [hq.out] at hqj
  clear hst hq0 ci e0 hin
  rcases Nat.lt_or_ge j l.length with hl | hl
  · have e1 : wrap64 ((j : Int) + 1) = ((j + 1 : Nat) : Int) := by rw [w64 (by omega) (by omega)]; omega
    have e2 : wrap64 ((q : Int) + 1) = ((q + 1 : Nat) : Int) := by rw [w64 (by omega) (by omega)]; omega
    have hjM : j < M.length := by omega
    have hqM : q < M.length := by omega
    have hjq : ¬ j = q := by omega
    have hqll : q < l.length := by omega
    have hqj2 : ¬ q = j := by omega
    have hat := hinv.out.rest j hl (Nat.le_refl _)
    have hat2 : M[j] = .ag [.sc (.int .i64 l[j].tm), .sc (.int .i64 l[j].ct), .sl false 1 (ints l[j].ck), .sc (.string l[j].it), .sc (.string l[j].tx)] := by rw [List.getElem?_eq_getElem hjM] at hat; simpa using hat
    obtain ⟨t, ht, a, b, c, d, e, hc, rfl⟩ := hinv.out.jk q (by rw [hq.out]; exact Nat.le_refl _) hqj
    have ht2 : M[q] = .ag [.sc (.int .i64 a), .sc (.int .i64 b), c, .sc (.string d), .sc (.string e)] := by rw [List.getElem?_eq_getElem hqM] at ht; simpa using ht
    simp only [edtC_eq] at hat
    have cs := cf.out l[j] (List.getElem_mem hl)
    cases hp : p l[j] with
    | true =>
      rw [hp] at cs
      have hn : Hd (DInv l p (j + 1) (M.set j (jkX l[j]))) := hinv.out.skip hl hp
      have hn2 : Hd (((l.take (j + 1)).filter fun x => !p x).length = q) := by rw [Hd, filt_yes hl hp]; exact hq.out
      clear hp cf
      repeat' (first | with_reducible refine OutOK.done ?_ | refine thenQ_n ?_ | refine thenQ_r ?_ | refine thenQ_e ?_ | refine AW.seq ?_ | refine AW.reg tok (by simp [*]; rfl) ?_ | refine AW.ifB (by simp [*]; rfl) ?_ | refine IfG.t ?_ | refine IfG.f ?_ | (refine IfG.p (fun hg => ?_) (fun hg => ?_) <;> (try (have hg' := hg; simp at hg'))) | (refine IfG.n (fun hg => ?_) (fun hg => ?_) <;> (try (have hg' := hg; simp at hg'))) | (refine OutOK.gateP (fun hg => ?_) (fun hg => ?_) <;> (try (have hg' := hg; simp at hg'))) | (refine OutOK.gateN (fun hg => ?_) (fun hg => ?_) <;> (try (have hg' := hg; simp at hg'))) | (refine IfG.g (fun hg => ?_) (fun hg => ?_) <;> (try (have hg' := hg; simp at hg'))) | (refine OutOK.gate (fun hg => ?_) (fun hg => ?_) <;> (try (have hg' := hg; simp at hg'))) | (refine OutOK.callF [true] (by simp [*]; rfl) (by simp [*]; rfl) (by simp [*]; rfl) hbf (by apply cs <;> first | assumption | exact Hd.out (by assumption) | ((try (clear e0)); (try (clear e1)); (try (clear e2)); (try (clear e3)); (try (clear e4)); (try (clear e5)); (try (clear e6)); (try (clear e7)); (try (clear e8)); (try (clear e9)); (try (clear e10)); (try (clear e11)); omega)) ⟨by simp [*], by simp [*], by simp [*], by simp [*], by simp [*]⟩ (by simp [*]) (by simp [*]; rfl) ?_) | refine OutOK.run (by simp [*]; rfl) ?_ | refine AW.ret ?_ | refine AW.skip ?_ | refine AW.exit ?_ | refine fin_r ?_ | refine fin_n ?_ | refine AW.block ?_ | refine blockQ_n ?_ | refine blockQ_r ?_ | refine blockQ_e ?_ | refine blockQ_o rfl ?_)
      exact ⟨(j + 1, q, M.set j (jkX l[j])), ⟨hn, hn2⟩, ⟨by simp, by simp, by simp⟩, by simp only; ((try (clear e0)); (try (clear e1)); (try (clear e2)); (try (clear e3)); (try (clear e4)); (try (clear e5)); (try (clear e6)); (try (clear e7)); (try (clear e8)); (try (clear e9)); (try (clear e10)); (try (clear e11)); omega)⟩
    | false =>
      rw [hp] at cs
      have hn : Hd (DInv l p (j + 1) ((M.set j (jkX l[j])).set q (.ag (edtC false l[j])))) := hinv.out.keep hl hp hq.out
      have hn2 : Hd (((l.take (j + 1)).filter fun x => !p x).length = q + 1) := by rw [Hd, filt_no hl hp, List.length_append, hq.out]; rfl
      clear hp cf
      repeat' (first | with_reducible refine OutOK.done ?_ | refine thenQ_n ?_ | refine thenQ_r ?_ | refine thenQ_e ?_ | refine AW.seq ?_ | refine AW.reg tok (by simp [*]; rfl) ?_ | refine AW.ifB (by simp [*]; rfl) ?_ | refine IfG.t ?_ | refine IfG.f ?_ | (refine IfG.p (fun hg => ?_) (fun hg => ?_) <;> (try (have hg' := hg; simp at hg'))) | (refine IfG.n (fun hg => ?_) (fun hg => ?_) <;> (try (have hg' := hg; simp at hg'))) | (refine OutOK.gateP (fun hg => ?_) (fun hg => ?_) <;> (try (have hg' := hg; simp at hg'))) | (refine OutOK.gateN (fun hg => ?_) (fun hg => ?_) <;> (try (have hg' := hg; simp at hg'))) | (refine IfG.g (fun hg => ?_) (fun hg => ?_) <;> (try (have hg' := hg; simp at hg'))) | (refine OutOK.gate (fun hg => ?_) (fun hg => ?_) <;> (try (have hg' := hg; simp at hg'))) | (refine OutOK.callF [true] (by simp [*]; rfl) (by simp [*]; rfl) (by simp [*]; rfl) hbf (by apply cs <;> first | assumption | exact Hd.out (by assumption) | ((try (clear e0)); (try (clear e1)); (try (clear e2)); (try (clear e3)); (try (clear e4)); (try (clear e5)); (try (clear e6)); (try (clear e7)); (try (clear e8)); (try (clear e9)); (try (clear e10)); (try (clear e11)); omega)) ⟨by simp [*], by simp [*], by simp [*], by simp [*], by simp [*]⟩ (by simp [*]) (by simp [*]; rfl) ?_) | refine OutOK.run (by simp [*]; rfl) ?_ | refine AW.ret ?_ | refine AW.skip ?_ | refine AW.exit ?_ | refine fin_r ?_ | refine fin_n ?_ | refine AW.block ?_ | refine blockQ_n ?_ | refine blockQ_r ?_ | refine blockQ_e ?_ | refine blockQ_o rfl ?_)
      exact ⟨(j + 1, q + 1, (M.set j (jkX l[j])).set q (.ag (edtC false l[j]))), ⟨hn, hn2⟩, ⟨by simp, by simp, by simp⟩, by simp only; ((try (clear e0)); (try (clear e1)); (try (clear e2)); (try (clear e3)); (try (clear e4)); (try (clear e5)); (try (clear e6)); (try (clear e7)); (try (clear e8)); (try (clear e9)); (try (clear e10)); (try (clear e11)); omega)⟩
  · have hjj : j = l.length := by omega
    have hjn : ¬ j < l.length := by omega
    have hinv2 : Hd (DInv l p l.length M) := by rw [← hjj]; exact hinv
    have hq2 : Hd ((l.filter fun x => !p x).length = q) := by have := hq.out; rw [hjj, List.take_length] at this; exact this
    have hfin : Hd (∀ R : List PV, (M.take q ++ R).take q = edts false (l.filter fun x => !p x)) := by rw [Hd, ← hq2.out]; exact fun R => hinv2.out.fin R
    have hql : q ≤ l.length := by omega
    have hmin : min q l.length = q := by omega
    have hsum : q + (l.length - q) = l.length := by omega
    have hqlI : (q : Int) ≤ (l.length : Int) := by omega
    clear cf
    repeat' (first | with_reducible refine AW.stopT ?_ | with_reducible refine OutOK.done ?_ | refine thenQ_n ?_ | refine thenQ_r ?_ | refine thenQ_e ?_ | refine AW.seq ?_ | refine AW.reg tok (by simp [*]; rfl) ?_ | refine AW.ifB (by simp [*]; rfl) ?_ | refine IfG.t ?_ | refine IfG.f ?_ | (refine IfG.p (fun hg => ?_) (fun hg => ?_) <;> (try (have hg' := hg; simp at hg'))) | (refine IfG.n (fun hg => ?_) (fun hg => ?_) <;> (try (have hg' := hg; simp at hg'))) | (refine OutOK.gateP (fun hg => ?_) (fun hg => ?_) <;> (try (have hg' := hg; simp at hg'))) | (refine OutOK.gateN (fun hg => ?_) (fun hg => ?_) <;> (try (have hg' := hg; simp at hg'))) | (refine IfG.g (fun hg => ?_) (fun hg => ?_) <;> (try (have hg' := hg; simp at hg'))) | (refine OutOK.gate (fun hg => ?_) (fun hg => ?_) <;> (try (have hg' := hg; simp at hg'))) | refine OutOK.run (by simp [*]; rfl) ?_ | refine AW.ret ?_ | refine AW.skip ?_ | refine AW.exit ?_ | refine fin_r ?_ | refine fin_n ?_ | refine AW.block ?_ | refine blockQ_n ?_ | refine blockQ_r ?_ | refine blockQ_e ?_ | refine blockQ_o rfl ?_)
    refine ⟨AW.ownR 4 95000000 (by simp; rfl) ?_⟩
    repeat' (first | with_reducible refine OutOK.done ?_ | refine thenQ_n ?_ | refine thenQ_r ?_ | refine thenQ_e ?_ | refine AW.seq ?_ | refine AW.reg tok (by simp [*]; rfl) ?_ | refine AW.ifB (by simp [*]; rfl) ?_ | refine IfG.t ?_ | refine IfG.f ?_ | (refine IfG.p (fun hg => ?_) (fun hg => ?_) <;> (try (have hg' := hg; simp at hg'))) | (refine IfG.n (fun hg => ?_) (fun hg => ?_) <;> (try (have hg' := hg; simp at hg'))) | (refine OutOK.gateP (fun hg => ?_) (fun hg => ?_) <;> (try (have hg' := hg; simp at hg'))) | (refine OutOK.gateN (fun hg => ?_) (fun hg => ?_) <;> (try (have hg' := hg; simp at hg'))) | (refine IfG.g (fun hg => ?_) (fun hg => ?_) <;> (try (have hg' := hg; simp at hg'))) | (refine OutOK.gate (fun hg => ?_) (fun hg => ?_) <;> (try (have hg' := hg; simp at hg'))) | refine OutOK.run (by simp [*]; rfl) ?_ | refine AW.ret ?_ | refine AW.skip ?_ | refine AW.exit ?_ | refine fin_r ?_ | refine fin_n ?_ | refine AW.block ?_ | refine blockQ_n ?_ | refine blockQ_r ?_ | refine blockQ_e ?_ | refine blockQ_o rfl ?_)
    simp [Try.f94, hfin.out]
end Go.Proofs.Ytbofobjofngoeaa.EngS


set_option linter.unusedSimpArgs false
set_option linter.unusedVariables false
set_option maxHeartbeats 4000000
set_option maxRecDepth 100000
namespace Go.Proofs.Ytbofobjofngoeaa.EngS
open Go Go.Proofs Go.Eng Go.RowKit
attribute [local irreducible] Go.RowKit.wrap64
theorem c_spec_l22Total (l : List Edt) (t : Int) (h : l.length ≤ 1048576) : ACall Try.prog 90 [.v (.sl true 5 (edts true l)), int t] [.x, .x] [int (cntE l t : Nat)] := by
  refine ACall.of (N := 23) tok Try.func90 rfl rfl rfl (by simp) ?_
  repeat' (first | with_reducible refine OutOK.done ?_ | refine thenQ_n ?_ | refine thenQ_r ?_ | refine thenQ_e ?_ | refine AW.seq ?_ | refine AW.reg tok (by simp [*]; rfl) ?_ | refine AW.ifB (by simp [*]; rfl) ?_ | refine IfG.t ?_ | refine IfG.f ?_ | (refine IfG.p (fun hg => ?_) (fun hg => ?_) <;> (try (have hg' := hg; simp at hg'))) | (refine IfG.n (fun hg => ?_) (fun hg => ?_) <;> (try (have hg' := hg; simp at hg'))) | (refine OutOK.gateP (fun hg => ?_) (fun hg => ?_) <;> (try (have hg' := hg; simp at hg'))) | (refine OutOK.gateN (fun hg => ?_) (fun hg => ?_) <;> (try (have hg' := hg; simp at hg'))) | (refine IfG.g (fun hg => ?_) (fun hg => ?_) <;> (try (have hg' := hg; simp at hg'))) | (refine OutOK.gate (fun hg => ?_) (fun hg => ?_) <;> (try (have hg' := hg; simp at hg'))) | refine OutOK.run (by simp [*]; rfl) ?_ | refine AW.ret ?_ | refine AW.skip ?_ | refine AW.exit ?_ | refine fin_r ?_ | refine fin_n ?_ | refine AW.block ?_ | refine blockQ_n ?_ | refine blockQ_r ?_ | refine blockQ_e ?_ | refine blockQ_o rfl ?_)
  refine AW.loopL (α := Nat) (fun i => i ≤ l.length) (fun i => [(0, .c (.sl true 5 (edts true l))), (1, .c (.sc (.int .i64 t))), (5, .c (.sc (.int .i64 ((cntE (l.take i) t : Nat) : Int)))), (6, .c (.sc (.int .i64 (i : Int))))]) (fun _ => []) (fun i => l.length - i) 0 (Nat.zero_le _) ⟨by simp [cntE], by simp, by simp⟩ ?_
  intro i hi
  rcases Nat.lt_or_ge i l.length with hl | hl
  · have e1 : wrap64 ((i : Int) + 1) = ((i + 1 : Nat) : Int) := by rw [w64 (by omega) (by omega)]; omega
    have hst := cntE_take l i hl t
    have hc : cntE (l.take i) t ≤ 1048576 := by have := cntE_le (l.take i) t; have := List.length_take_le i l; omega
    generalize hc1 : cntE (l.take (i + 1)) t = c1 at *
    generalize cntE (l.take i) t = c at *
    have hc1' : Hd _ := hc1
    clear hc1
    have e2 : wrap64 ((c : Int) + 1) = ((c + 1 : Nat) : Int) := by rw [w64 (by ((try (clear e0)); (try (clear e1)); (try (clear e2)); (try (clear e3)); (try (clear e4)); (try (clear e5)); (try (clear e6)); (try (clear e7)); (try (clear e8)); (try (clear e9)); (try (clear e10)); (try (clear e11)); omega)) (by ((try (clear e0)); (try (clear e1)); (try (clear e2)); (try (clear e3)); (try (clear e4)); (try (clear e5)); (try (clear e6)); (try (clear e7)); (try (clear e8)); (try (clear e9)); (try (clear e10)); (try (clear e11)); omega))]; ((try (clear e0)); (try (clear e1)); (try (clear e2)); (try (clear e3)); (try (clear e4)); (try (clear e5)); (try (clear e6)); (try (clear e7)); (try (clear e8)); (try (clear e9)); (try (clear e10)); (try (clear e11)); omega)
    by_cases ht : l[i].tm = t
    · rw [if_pos ht] at hst
      have hst' : Hd _ := hst
      clear hst
      repeat' (first | with_reducible refine OutOK.done ?_ | refine thenQ_n ?_ | refine thenQ_r ?_ | refine thenQ_e ?_ | refine AW.seq ?_ | refine AW.reg tok (by simp [*]; rfl) ?_ | refine AW.ifB (by simp [*]; rfl) ?_ | refine IfG.t ?_ | refine IfG.f ?_ | (refine IfG.p (fun hg => ?_) (fun hg => ?_) <;> (try (have hg' := hg; simp at hg'))) | (refine IfG.n (fun hg => ?_) (fun hg => ?_) <;> (try (have hg' := hg; simp at hg'))) | (refine OutOK.gateP (fun hg => ?_) (fun hg => ?_) <;> (try (have hg' := hg; simp at hg'))) | (refine OutOK.gateN (fun hg => ?_) (fun hg => ?_) <;> (try (have hg' := hg; simp at hg'))) | (refine IfG.g (fun hg => ?_) (fun hg => ?_) <;> (try (have hg' := hg; simp at hg'))) | (refine OutOK.gate (fun hg => ?_) (fun hg => ?_) <;> (try (have hg' := hg; simp at hg'))) | refine OutOK.run (by simp [*]; rfl) ?_ | refine AW.ret ?_ | refine AW.skip ?_ | refine AW.exit ?_ | refine fin_r ?_ | refine fin_n ?_ | refine AW.block ?_ | refine blockQ_n ?_ | refine blockQ_r ?_ | refine blockQ_e ?_ | refine blockQ_o rfl ?_)
      exact ⟨i + 1, hl, ⟨by simp [hc1'.out, hst'.out], by simp, by simp⟩, by ((try (clear e0)); (try (clear e1)); (try (clear e2)); (try (clear e3)); (try (clear e4)); (try (clear e5)); (try (clear e6)); (try (clear e7)); (try (clear e8)); (try (clear e9)); (try (clear e10)); (try (clear e11)); omega)⟩
    · rw [if_neg ht] at hst
      have hst' : Hd _ := hst
      clear hst
      repeat' (first | with_reducible refine OutOK.done ?_ | refine thenQ_n ?_ | refine thenQ_r ?_ | refine thenQ_e ?_ | refine AW.seq ?_ | refine AW.reg tok (by simp [*]; rfl) ?_ | refine AW.ifB (by simp [*]; rfl) ?_ | refine IfG.t ?_ | refine IfG.f ?_ | (refine IfG.p (fun hg => ?_) (fun hg => ?_) <;> (try (have hg' := hg; simp at hg'))) | (refine IfG.n (fun hg => ?_) (fun hg => ?_) <;> (try (have hg' := hg; simp at hg'))) | (refine OutOK.gateP (fun hg => ?_) (fun hg => ?_) <;> (try (have hg' := hg; simp at hg'))) | (refine OutOK.gateN (fun hg => ?_) (fun hg => ?_) <;> (try (have hg' := hg; simp at hg'))) | (refine IfG.g (fun hg => ?_) (fun hg => ?_) <;> (try (have hg' := hg; simp at hg'))) | (refine OutOK.gate (fun hg => ?_) (fun hg => ?_) <;> (try (have hg' := hg; simp at hg'))) | refine OutOK.run (by simp [*]; rfl) ?_ | refine AW.ret ?_ | refine AW.skip ?_ | refine AW.exit ?_ | refine fin_r ?_ | refine fin_n ?_ | refine AW.block ?_ | refine blockQ_n ?_ | refine blockQ_r ?_ | refine blockQ_e ?_ | refine blockQ_o rfl ?_)
      exact ⟨i + 1, hl, ⟨by simp [hc1'.out, hst'.out], by simp, by simp⟩, by ((try (clear e0)); (try (clear e1)); (try (clear e2)); (try (clear e3)); (try (clear e4)); (try (clear e5)); (try (clear e6)); (try (clear e7)); (try (clear e8)); (try (clear e9)); (try (clear e10)); (try (clear e11)); omega)⟩
  · have hii : i = l.length := by omega
    subst hii
    rw [List.take_length]
    have hn : ¬ l.length < l.length := by omega
    repeat' (first | with_reducible refine OutOK.done ?_ | refine thenQ_n ?_ | refine thenQ_r ?_ | refine thenQ_e ?_ | refine AW.seq ?_ | refine AW.reg tok (by simp [*]; rfl) ?_ | refine AW.ifB (by simp [*]; rfl) ?_ | refine IfG.t ?_ | refine IfG.f ?_ | (refine IfG.p (fun hg => ?_) (fun hg => ?_) <;> (try (have hg' := hg; simp at hg'))) | (refine IfG.n (fun hg => ?_) (fun hg => ?_) <;> (try (have hg' := hg; simp at hg'))) | (refine OutOK.gateP (fun hg => ?_) (fun hg => ?_) <;> (try (have hg' := hg; simp at hg'))) | (refine OutOK.gateN (fun hg => ?_) (fun hg => ?_) <;> (try (have hg' := hg; simp at hg'))) | (refine IfG.g (fun hg => ?_) (fun hg => ?_) <;> (try (have hg' := hg; simp at hg'))) | (refine OutOK.gate (fun hg => ?_) (fun hg => ?_) <;> (try (have hg' := hg; simp at hg'))) | refine OutOK.run (by simp [*]; rfl) ?_ | refine AW.ret ?_ | refine AW.skip ?_ | refine AW.exit ?_ | refine fin_r ?_ | refine fin_n ?_ | refine AW.block ?_ | refine blockQ_n ?_ | refine blockQ_r ?_ | refine blockQ_e ?_ | refine blockQ_o rfl ?_)
    simp [Try.f90]
theorem c_spec_l1Own (xs : List Int) (h : xs.length ≤ 1048576) : ACall Try.prog 123 [.v (.sl true 1 (ints xs))] [.x] [.v (.sl false 1 (ints xs))] := by
  have h3 : xs.length * 8 ≤ 140737488355328 := by omega
  have h4 : xs.length ≤ 4611686018427387904 := by omega
  refine ACall.of (N := 6) tok Try.func123 rfl rfl rfl (by simp) ?_
  repeat' (first | with_reducible refine OutOK.done ?_ | refine thenQ_n ?_ | refine thenQ_r ?_ | refine thenQ_e ?_ | refine AW.seq ?_ | refine AW.reg tok (by simp [*]; rfl) ?_ | refine AW.ifB (by simp [*]; rfl) ?_ | refine IfG.t ?_ | refine IfG.f ?_ | (refine IfG.p (fun hg => ?_) (fun hg => ?_) <;> (try (have hg' := hg; simp at hg'))) | (refine IfG.n (fun hg => ?_) (fun hg => ?_) <;> (try (have hg' := hg; simp at hg'))) | (refine OutOK.gateP (fun hg => ?_) (fun hg => ?_) <;> (try (have hg' := hg; simp at hg'))) | (refine OutOK.gateN (fun hg => ?_) (fun hg => ?_) <;> (try (have hg' := hg; simp at hg'))) | (refine IfG.g (fun hg => ?_) (fun hg => ?_) <;> (try (have hg' := hg; simp at hg'))) | (refine OutOK.gate (fun hg => ?_) (fun hg => ?_) <;> (try (have hg' := hg; simp at hg'))) | refine OutOK.run (by simp [*]; rfl) ?_ | refine AW.ret ?_ | refine AW.skip ?_ | refine AW.exit ?_ | refine fin_r ?_ | refine fin_n ?_ | refine AW.block ?_ | refine blockQ_n ?_ | refine blockQ_r ?_ | refine blockQ_e ?_ | refine blockQ_o rfl ?_)
  all_goals (try simp [*, Try.f123])
theorem c_spec_l22Copy (e : Edt) (h : e.ck.length ≤ 1048576) : ACall Try.prog 91 [edtD e] [.x] [edtO e] := by
  have co := c_spec_l1Own e.ck h
  refine ACall.of (N := 8) tok Try.func91 rfl rfl rfl (by simp) ?_
  repeat' (first | with_reducible refine OutOK.done ?_ | refine thenQ_n ?_ | refine thenQ_r ?_ | refine thenQ_e ?_ | refine AW.seq ?_ | refine AW.reg tok (by simp [*]; rfl) ?_ | refine AW.ifB (by simp [*]; rfl) ?_ | refine IfG.t ?_ | refine IfG.f ?_ | (refine IfG.p (fun hg => ?_) (fun hg => ?_) <;> (try (have hg' := hg; simp at hg'))) | (refine IfG.n (fun hg => ?_) (fun hg => ?_) <;> (try (have hg' := hg; simp at hg'))) | (refine OutOK.gateP (fun hg => ?_) (fun hg => ?_) <;> (try (have hg' := hg; simp at hg'))) | (refine OutOK.gateN (fun hg => ?_) (fun hg => ?_) <;> (try (have hg' := hg; simp at hg'))) | (refine IfG.g (fun hg => ?_) (fun hg => ?_) <;> (try (have hg' := hg; simp at hg'))) | (refine OutOK.gate (fun hg => ?_) (fun hg => ?_) <;> (try (have hg' := hg; simp at hg'))) | (refine OutOK.callF [] (by simp [*]; rfl) (by simp [*]; rfl) (by simp [*]; rfl) hb123 (by apply co <;> first | assumption | exact Hd.out (by assumption) | ((try (clear e0)); (try (clear e1)); (try (clear e2)); (try (clear e3)); (try (clear e4)); (try (clear e5)); (try (clear e6)); (try (clear e7)); (try (clear e8)); (try (clear e9)); (try (clear e10)); (try (clear e11)); omega)) ⟨by simp [*], by simp [*], by simp [*], by simp [*], by simp [*]⟩ (by simp [*]) (by simp [*]; rfl) ?_) | refine OutOK.run (by simp [*]; rfl) ?_ | refine AW.ret ?_ | refine AW.skip ?_ | refine AW.exit ?_ | refine fin_r ?_ | refine fin_n ?_ | refine AW.block ?_ | refine blockQ_n ?_ | refine blockQ_r ?_ | refine blockQ_e ?_ | refine blockQ_o rfl ?_)
  all_goals (try simp [*, Try.f91])
noncomputable def knwB (l : List Edt) (n t : Int) : Bool := hist l n && inR 0 (n - 1) t
def knwL (l : List Edt) (t : Int) : List Edt := if fndE l t (cntE l t : Nat) < 0 then [] else l.filter fun x => !knP (l[(fndE l t (cntE l t : Nat)).toNat]?.getD default) x
noncomputable def knwR (l : List Edt) (n t : Int) : List Edt := if knwB l n t = true then knwL l t else []
theorem hist_tm {l : List Edt} {n : Int} (h : hist l n = true) : ∀ e ∈ l, inR 0 (n - 1) e.tm = true := by
  have hh := hist_iff'.1 h
  intro e he
  obtain ⟨i, hi, rfl⟩ := List.getElem_of_mem he
  exact (hh.st i hi).1
theorem knP_iff {l : List Edt} {n : Int} (hh : Hist l n) {i k : Nat} (hi : i < l.length) (hk : k < l.length) : (!knP l[k] l[i]) = decide (l[i].ct ≤ ckAt l[k].ck l[i].tm) := by
  have hR := inR_iff.1 (hh.st i hi).1
  have hL := (hh.fl k hk).1
  by_cases hz : l[i].tm = l[k].tm ∧ l[i].ct = l[k].ct
  · have h1 : cmpE l[i] l[k] = 0 := cmpE_zero.2 hz
    have h2 := (hh.fl k hk).2.1
    have h3 : l[i].ct ≤ ckAt l[k].ck l[i].tm := by rw [hz.1, h2, hz.2]; omega
    simp [knP, h1, h3]
  · have h1 : ¬ cmpE l[i] l[k] = 0 := fun e => hz (cmpE_zero.1 e)
    have h2 : inR 0 ((l[k].ck.length : Int) - 1) l[i].tm = true := inR_iff.2 ⟨by omega, by omega⟩
    have h3 : (decide (l[i].tm = l[k].tm) && decide (l[i].ct = l[k].ct)) = false := by simpa using hz
    rw [knP, precE, h2, h3]
    simp [h1]
theorem c_impl_KnownBy (l : List Edt) (n t : Int) (h : l.length ≤ 1048576) (hb : ∀ e ∈ l, EdtB e) : ACall Try.prog 42 [.v (.sl true 5 (edts true l)), int n, int t] [.x, .x, .x] [.v (.sl false 5 (edts false (knwR l n t))), boo (knwB l n t)] := by
  have cg := c_impl_IsValidHistory l n (by omega) (fun e he => (hb e he).w)
  cases hh : hist l n with
  | false =>
    rw [hh] at cg
    have h1 : knwB l n t = false := by simp [knwB, hh]
    have h2 : knwR l n t = [] := by simp [knwR, h1]
    rw [h1, h2]
    clear h1 h2 hb hh
    refine ACall.of (N := 35) tok Try.func42 rfl rfl rfl (by simp) ?_
    repeat' (first | with_reducible refine OutOK.done ?_ | refine thenQ_n ?_ | refine thenQ_r ?_ | refine thenQ_e ?_ | refine AW.seq ?_ | refine AW.dtreeJ tok mixed [2, 4, 6, 7, 9] [] (.fork [(1, false), (3, false), (5, false), (0, false), (2, true)] (.fork [(4, true), (6, true), (7, true)] (.leaf [(8, false), (9, true), (10, false)]) (.leaf [(9, true), (8, false), (10, false)])) (.leaf [(9, true), (4, true), (6, true), (7, true), (8, false), (10, false)])) (by decide +kernel) rfl (st2 := ?_) ?_ ?_ | with_reducible exact eqSt _ | with_reducible refine ForkQ.mk ?_ ?_ | with_reducible refine ChkQ.mk (by simp [*, watchB, WatchAll]) ?_ | refine OutT.chk (by simp [*]; rfl) ?_ | refine OutT.leaf (by simp [*]; rfl) ?_ | refine OutT.fork (by simp [*]; rfl) ?_ | refine AW.reg tok (by simp [*]; rfl) ?_ | refine AW.ifB (by simp [*]; rfl) ?_ | refine IfG.t ?_ | refine IfG.f ?_ | (refine IfG.p (fun hg => ?_) (fun hg => ?_) <;> (try (have hg' := hg; simp at hg'))) | (refine IfG.n (fun hg => ?_) (fun hg => ?_) <;> (try (have hg' := hg; simp at hg'))) | (refine OutOK.gateP (fun hg => ?_) (fun hg => ?_) <;> (try (have hg' := hg; simp at hg'))) | (refine OutOK.gateN (fun hg => ?_) (fun hg => ?_) <;> (try (have hg' := hg; simp at hg'))) | (refine IfG.g (fun hg => ?_) (fun hg => ?_) <;> (try (have hg' := hg; simp at hg'))) | (refine OutOK.gate (fun hg => ?_) (fun hg => ?_) <;> (try (have hg' := hg; simp at hg'))) | (refine OutOK.callF [] (by simp [*]; rfl) (by simp [*]; rfl) (by simp [*]; rfl) hb26 (by apply cg <;> first | assumption | exact Hd.out (by assumption) | ((try (clear e0)); (try (clear e1)); (try (clear e2)); (try (clear e3)); (try (clear e4)); (try (clear e5)); (try (clear e6)); (try (clear e7)); (try (clear e8)); (try (clear e9)); (try (clear e10)); (try (clear e11)); omega)) ⟨by simp [*], by simp [*], by simp [*], by simp [*], by simp [*]⟩ (by simp [*]) (by simp [*]; rfl) ?_) | (refine OutOK.callF [] (by simp [*]; rfl) (by simp [*]; rfl) (by simp [*]; rfl) hb59 (by apply c_impl_within <;> first | assumption | exact Hd.out (by assumption) | ((try (clear e0)); (try (clear e1)); (try (clear e2)); (try (clear e3)); (try (clear e4)); (try (clear e5)); (try (clear e6)); (try (clear e7)); (try (clear e8)); (try (clear e9)); (try (clear e10)); (try (clear e11)); omega)) ⟨by simp [*], by simp [*], by simp [*], by simp [*], by simp [*]⟩ (by simp [*]) (by simp [*]; rfl) ?_) | refine OutOK.run (by simp [*]; rfl) ?_ | refine AW.ret ?_ | refine AW.skip ?_ | refine AW.exit ?_ | refine fin_r ?_ | refine fin_n ?_ | refine AW.block ?_ | refine blockQ_n ?_ | refine blockQ_r ?_ | refine blockQ_e ?_ | refine blockQ_o rfl ?_)
    simp [Try.f42]
  | true =>
    rw [hh] at cg
    have hH := hist_iff'.1 hh
    have hR3 := inR_iff.1 hH.nn
    have e1 : wrap64 (n - 1) = n - 1 := w64 (by omega) (by omega)
    cases hR : inR 0 (n - 1) t with
    | false =>
      have h1 : knwB l n t = false := by simp [knwB, hR]
      have h2 : knwR l n t = [] := by simp [knwR, h1]
      rw [h1, h2]
      clear h1 h2 hb hh hH hR3
      refine ACall.of (N := 35) tok Try.func42 rfl rfl rfl (by simp) ?_
      repeat' (first | with_reducible refine OutOK.done ?_ | refine thenQ_n ?_ | refine thenQ_r ?_ | refine thenQ_e ?_ | refine AW.seq ?_ | refine AW.dtreeJ tok mixed [2, 4, 6, 7, 9] [] (.fork [(1, false), (3, false), (5, false), (0, false), (2, true)] (.fork [(4, true), (6, true), (7, true)] (.leaf [(8, false), (9, true), (10, false)]) (.leaf [(9, true), (8, false), (10, false)])) (.leaf [(9, true), (4, true), (6, true), (7, true), (8, false), (10, false)])) (by decide +kernel) rfl (st2 := ?_) ?_ ?_ | with_reducible exact eqSt _ | with_reducible refine ForkQ.mk ?_ ?_ | with_reducible refine ChkQ.mk (by simp [*, watchB, WatchAll]) ?_ | refine OutT.chk (by simp [*]; rfl) ?_ | refine OutT.leaf (by simp [*]; rfl) ?_ | refine OutT.fork (by simp [*]; rfl) ?_ | refine AW.reg tok (by simp [*]; rfl) ?_ | refine AW.ifB (by simp [*]; rfl) ?_ | refine IfG.t ?_ | refine IfG.f ?_ | (refine IfG.p (fun hg => ?_) (fun hg => ?_) <;> (try (have hg' := hg; simp at hg'))) | (refine IfG.n (fun hg => ?_) (fun hg => ?_) <;> (try (have hg' := hg; simp at hg'))) | (refine OutOK.gateP (fun hg => ?_) (fun hg => ?_) <;> (try (have hg' := hg; simp at hg'))) | (refine OutOK.gateN (fun hg => ?_) (fun hg => ?_) <;> (try (have hg' := hg; simp at hg'))) | (refine IfG.g (fun hg => ?_) (fun hg => ?_) <;> (try (have hg' := hg; simp at hg'))) | (refine OutOK.gate (fun hg => ?_) (fun hg => ?_) <;> (try (have hg' := hg; simp at hg'))) | (refine OutOK.callF [] (by simp [*]; rfl) (by simp [*]; rfl) (by simp [*]; rfl) hb26 (by apply cg <;> first | assumption | exact Hd.out (by assumption) | ((try (clear e0)); (try (clear e1)); (try (clear e2)); (try (clear e3)); (try (clear e4)); (try (clear e5)); (try (clear e6)); (try (clear e7)); (try (clear e8)); (try (clear e9)); (try (clear e10)); (try (clear e11)); omega)) ⟨by simp [*], by simp [*], by simp [*], by simp [*], by simp [*]⟩ (by simp [*]) (by simp [*]; rfl) ?_) | (refine OutOK.callF [] (by simp [*]; rfl) (by simp [*]; rfl) (by simp [*]; rfl) hb59 (by apply c_impl_within <;> first | assumption | exact Hd.out (by assumption) | ((try (clear e0)); (try (clear e1)); (try (clear e2)); (try (clear e3)); (try (clear e4)); (try (clear e5)); (try (clear e6)); (try (clear e7)); (try (clear e8)); (try (clear e9)); (try (clear e10)); (try (clear e11)); omega)) ⟨by simp [*], by simp [*], by simp [*], by simp [*], by simp [*]⟩ (by simp [*]) (by simp [*]; rfl) ?_) | refine OutOK.run (by simp [*]; rfl) ?_ | refine AW.ret ?_ | refine AW.skip ?_ | refine AW.exit ?_ | refine fin_r ?_ | refine fin_n ?_ | refine AW.block ?_ | refine blockQ_n ?_ | refine blockQ_r ?_ | refine blockQ_e ?_ | refine blockQ_o rfl ?_)
      simp [Try.f42]
    | true =>
      have h1 : knwB l n t = true := by simp [knwB, hR, hh]
      have h2 : knwR l n t = knwL l t := by simp [knwR, h1]
      rw [h1, h2]
      have hr := inR_iff.1 hR
      obtain ⟨T, hT⟩ : ∃ T : Nat, t = (T : Int) := ⟨t.toNat, by omega⟩
      subst hT
      have hl24 := hist_len hh
      have cc := c_impl_editCounts l n hl24 hR3.1 hR3.2 (hist_tm hh)
      have ce := c_impl_editOf l (T : Int) (cntE l (T : Int) : Nat) (by omega)
      have hTl : T < (cts l n l.length).length := by simp; omega
      have hat : (cts l n l.length)[T] = ((cntE l (T : Int) : Nat) : Int) := by rw [cts_at, List.take_length]
      have hkn : Hd (knwL l (T : Int) = if fndE l (T : Int) (cntE l (T : Int) : Nat) < 0 then [] else l.filter fun x => !knP (l[(fndE l (T : Int) (cntE l (T : Int) : Nat)).toNat]?.getD default) x) := rfl
      have hfc := idx_cases (keyE (T : Int) (cntE l (T : Int) : Nat)) l
      rw [show idx (keyE (T : Int) (cntE l (T : Int) : Nat)) l = fndE l (T : Int) (cntE l (T : Int) : Nat) from rfl] at hfc
      have hck := hist_ck hh
      generalize fndE l (T : Int) (cntE l (T : Int) : Nat) = F at *
      generalize knwL l (T : Int) = K at *
      generalize cts l n l.length = cl at *
      generalize cntE l (T : Int) = c at *
      have hck' : Hd _ := hck
      clear h1 h2 hb hh hH hR3 hr hck
      rcases hfc with hf | ⟨L, rfl, hLl⟩
      · have hk := hkn.out
        rw [if_pos hf] at hk
        subst hk
        clear hkn
        refine ACall.of (N := 35) tok Try.func42 rfl rfl rfl (by simp) ?_
        repeat' (first | with_reducible refine OutOK.done ?_ | refine thenQ_n ?_ | refine thenQ_r ?_ | refine thenQ_e ?_ | refine AW.seq ?_ | refine AW.dtreeJ tok mixed [2, 4, 6, 7, 9] [] (.fork [(1, false), (3, false), (5, false), (0, false), (2, true)] (.fork [(4, true), (6, true), (7, true)] (.leaf [(8, false), (9, true), (10, false)]) (.leaf [(9, true), (8, false), (10, false)])) (.leaf [(9, true), (4, true), (6, true), (7, true), (8, false), (10, false)])) (by decide +kernel) rfl (st2 := ?_) ?_ ?_ | with_reducible exact eqSt _ | with_reducible refine ForkQ.mk ?_ ?_ | with_reducible refine ChkQ.mk (by simp [*, watchB, WatchAll]) ?_ | refine OutT.chk (by simp [*]; rfl) ?_ | refine OutT.leaf (by simp [*]; rfl) ?_ | refine OutT.fork (by simp [*]; rfl) ?_ | refine AW.reg tok (by simp [*]; rfl) ?_ | refine AW.ifB (by simp [*]; rfl) ?_ | refine IfG.t ?_ | refine IfG.f ?_ | (refine IfG.p (fun hg => ?_) (fun hg => ?_) <;> (try (have hg' := hg; simp at hg'))) | (refine IfG.n (fun hg => ?_) (fun hg => ?_) <;> (try (have hg' := hg; simp at hg'))) | (refine OutOK.gateP (fun hg => ?_) (fun hg => ?_) <;> (try (have hg' := hg; simp at hg'))) | (refine OutOK.gateN (fun hg => ?_) (fun hg => ?_) <;> (try (have hg' := hg; simp at hg'))) | (refine IfG.g (fun hg => ?_) (fun hg => ?_) <;> (try (have hg' := hg; simp at hg'))) | (refine OutOK.gate (fun hg => ?_) (fun hg => ?_) <;> (try (have hg' := hg; simp at hg'))) | (refine OutOK.callF [] (by simp [*]; rfl) (by simp [*]; rfl) (by simp [*]; rfl) hb26 (by apply cg <;> first | assumption | exact Hd.out (by assumption) | ((try (clear e0)); (try (clear e1)); (try (clear e2)); (try (clear e3)); (try (clear e4)); (try (clear e5)); (try (clear e6)); (try (clear e7)); (try (clear e8)); (try (clear e9)); (try (clear e10)); (try (clear e11)); omega)) ⟨by simp [*], by simp [*], by simp [*], by simp [*], by simp [*]⟩ (by simp [*]) (by simp [*]; rfl) ?_) | (refine OutOK.callF [] (by simp [*]; rfl) (by simp [*]; rfl) (by simp [*]; rfl) hb59 (by apply c_impl_within <;> first | assumption | exact Hd.out (by assumption) | ((try (clear e0)); (try (clear e1)); (try (clear e2)); (try (clear e3)); (try (clear e4)); (try (clear e5)); (try (clear e6)); (try (clear e7)); (try (clear e8)); (try (clear e9)); (try (clear e10)); (try (clear e11)); omega)) ⟨by simp [*], by simp [*], by simp [*], by simp [*], by simp [*]⟩ (by simp [*]) (by simp [*]; rfl) ?_) | (refine OutOK.callF [] (by simp [*]; rfl) (by simp [*]; rfl) (by simp [*]; rfl) hb93 (by apply cc <;> first | assumption | exact Hd.out (by assumption) | ((try (clear e0)); (try (clear e1)); (try (clear e2)); (try (clear e3)); (try (clear e4)); (try (clear e5)); (try (clear e6)); (try (clear e7)); (try (clear e8)); (try (clear e9)); (try (clear e10)); (try (clear e11)); omega)) ⟨by simp [*], by simp [*], by simp [*], by simp [*], by simp [*]⟩ (by simp [*]) (by simp [*]; rfl) ?_) | (refine OutOK.callF [] (by simp [*]; rfl) (by simp [*]; rfl) (by simp [*]; rfl) hb92 (by apply ce <;> first | assumption | exact Hd.out (by assumption) | ((try (clear e0)); (try (clear e1)); (try (clear e2)); (try (clear e3)); (try (clear e4)); (try (clear e5)); (try (clear e6)); (try (clear e7)); (try (clear e8)); (try (clear e9)); (try (clear e10)); (try (clear e11)); omega)) ⟨by simp [*], by simp [*], by simp [*], by simp [*], by simp [*]⟩ (by simp [*]) (by simp [*]; rfl) ?_) | refine OutOK.run (by simp [*]; rfl) ?_ | refine AW.ret ?_ | refine AW.skip ?_ | refine AW.exit ?_ | refine fin_r ?_ | refine fin_n ?_ | refine AW.block ?_ | refine blockQ_n ?_ | refine blockQ_r ?_ | refine blockQ_e ?_ | refine blockQ_o rfl ?_)
        simp [Try.f42]
      · have hk := hkn.out
        have hLn : ¬ (L : Int) < 0 := by omega
        rw [if_neg hLn] at hk
        simp only [Int.toNat_natCast, List.getElem?_eq_getElem hLl, Option.getD_some] at hk
        subst hk
        clear hkn
        have cp := c_impl_copyEdits l (by omega) (fun e he => by have := hck'.out e he; omega)
        have cd := c_DeleteFunc_edt l 96 [.sl true 5 (edts true l)] [.sc (.int .i64 (L : Int))] (knP l[L]) (by omega) (by simp) (fun x _ => c_impl_KnownBy_1 l L hLl x (hck'.out _ (List.getElem_mem hLl)))
        generalize (l.filter fun x => !knP l[L] x) = R at *
        refine ACall.of (N := 35) tok Try.func42 rfl rfl rfl (by simp) ?_
        repeat' (first | with_reducible refine OutOK.done ?_ | refine thenQ_n ?_ | refine thenQ_r ?_ | refine thenQ_e ?_ | refine AW.seq ?_ | refine AW.dtreeJ tok mixed [2, 4, 6, 7, 9] [] (.fork [(1, false), (3, false), (5, false), (0, false), (2, true)] (.fork [(4, true), (6, true), (7, true)] (.leaf [(8, false), (9, true), (10, false)]) (.leaf [(9, true), (8, false), (10, false)])) (.leaf [(9, true), (4, true), (6, true), (7, true), (8, false), (10, false)])) (by decide +kernel) rfl (st2 := ?_) ?_ ?_ | with_reducible exact eqSt _ | with_reducible refine ForkQ.mk ?_ ?_ | with_reducible refine ChkQ.mk (by simp [*, watchB, WatchAll]) ?_ | refine OutT.chk (by simp [*]; rfl) ?_ | refine OutT.leaf (by simp [*]; rfl) ?_ | refine OutT.fork (by simp [*]; rfl) ?_ | refine AW.reg tok (by simp [*]; rfl) ?_ | refine AW.ifB (by simp [*]; rfl) ?_ | refine IfG.t ?_ | refine IfG.f ?_ | (refine IfG.p (fun hg => ?_) (fun hg => ?_) <;> (try (have hg' := hg; simp at hg'))) | (refine IfG.n (fun hg => ?_) (fun hg => ?_) <;> (try (have hg' := hg; simp at hg'))) | (refine OutOK.gateP (fun hg => ?_) (fun hg => ?_) <;> (try (have hg' := hg; simp at hg'))) | (refine OutOK.gateN (fun hg => ?_) (fun hg => ?_) <;> (try (have hg' := hg; simp at hg'))) | (refine IfG.g (fun hg => ?_) (fun hg => ?_) <;> (try (have hg' := hg; simp at hg'))) | (refine OutOK.gate (fun hg => ?_) (fun hg => ?_) <;> (try (have hg' := hg; simp at hg'))) | (refine OutOK.callF [] (by simp [*]; rfl) (by simp [*]; rfl) (by simp [*]; rfl) hb26 (by apply cg <;> first | assumption | exact Hd.out (by assumption) | ((try (clear e0)); (try (clear e1)); (try (clear e2)); (try (clear e3)); (try (clear e4)); (try (clear e5)); (try (clear e6)); (try (clear e7)); (try (clear e8)); (try (clear e9)); (try (clear e10)); (try (clear e11)); omega)) ⟨by simp [*], by simp [*], by simp [*], by simp [*], by simp [*]⟩ (by simp [*]) (by simp [*]; rfl) ?_) | (refine OutOK.callF [] (by simp [*]; rfl) (by simp [*]; rfl) (by simp [*]; rfl) hb59 (by apply c_impl_within <;> first | assumption | exact Hd.out (by assumption) | ((try (clear e0)); (try (clear e1)); (try (clear e2)); (try (clear e3)); (try (clear e4)); (try (clear e5)); (try (clear e6)); (try (clear e7)); (try (clear e8)); (try (clear e9)); (try (clear e10)); (try (clear e11)); omega)) ⟨by simp [*], by simp [*], by simp [*], by simp [*], by simp [*]⟩ (by simp [*]) (by simp [*]; rfl) ?_) | (refine OutOK.callF [] (by simp [*]; rfl) (by simp [*]; rfl) (by simp [*]; rfl) hb93 (by apply cc <;> first | assumption | exact Hd.out (by assumption) | ((try (clear e0)); (try (clear e1)); (try (clear e2)); (try (clear e3)); (try (clear e4)); (try (clear e5)); (try (clear e6)); (try (clear e7)); (try (clear e8)); (try (clear e9)); (try (clear e10)); (try (clear e11)); omega)) ⟨by simp [*], by simp [*], by simp [*], by simp [*], by simp [*]⟩ (by simp [*]) (by simp [*]; rfl) ?_) | (refine OutOK.callF [] (by simp [*]; rfl) (by simp [*]; rfl) (by simp [*]; rfl) hb92 (by apply ce <;> first | assumption | exact Hd.out (by assumption) | ((try (clear e0)); (try (clear e1)); (try (clear e2)); (try (clear e3)); (try (clear e4)); (try (clear e5)); (try (clear e6)); (try (clear e7)); (try (clear e8)); (try (clear e9)); (try (clear e10)); (try (clear e11)); omega)) ⟨by simp [*], by simp [*], by simp [*], by simp [*], by simp [*]⟩ (by simp [*]) (by simp [*]; rfl) ?_) | (refine OutOK.callF [] (by simp [*]; rfl) (by simp [*]; rfl) (by simp [*]; rfl) hb95 (by apply cp <;> first | assumption | exact Hd.out (by assumption) | ((try (clear e0)); (try (clear e1)); (try (clear e2)); (try (clear e3)); (try (clear e4)); (try (clear e5)); (try (clear e6)); (try (clear e7)); (try (clear e8)); (try (clear e9)); (try (clear e10)); (try (clear e11)); omega)) ⟨by simp [*], by simp [*], by simp [*], by simp [*], by simp [*]⟩ (by simp [*]) (by simp [*]; rfl) ?_) | (refine OutOK.callF [true, false] (by simp [*]; rfl) (by simp [*]; rfl) (by simp [*]; rfl) hb94 (by apply cd <;> first | assumption | exact Hd.out (by assumption) | ((try (clear e0)); (try (clear e1)); (try (clear e2)); (try (clear e3)); (try (clear e4)); (try (clear e5)); (try (clear e6)); (try (clear e7)); (try (clear e8)); (try (clear e9)); (try (clear e10)); (try (clear e11)); omega)) ⟨by simp [*], by simp [*], by simp [*], by simp [*], by simp [*]⟩ (by simp [*]) (by simp [*]; rfl) ?_) | refine OutOK.run (by simp [*]; rfl) ?_ | refine AW.ret ?_ | refine AW.skip ?_ | refine AW.exit ?_ | refine fin_r ?_ | refine fin_n ?_ | refine AW.block ?_ | refine blockQ_n ?_ | refine blockQ_r ?_ | refine blockQ_e ?_ | refine blockQ_o rfl ?_)
        simp [Try.f42]
theorem c_spec_KnownBy (l : List Edt) (n t : Int) (h : l.length ≤ 1048576) (hb : ∀ e ∈ l, EdtB e) : ACall Try.prog 41 [.v (.sl true 5 (edts true l)), int n, int t] [.x, .x, .x] [.v (.sl false 5 (edts false (knwR l n t))), boo (knwB l n t)] := by
  have cg := c_spec_l22Good l n (by omega) (fun e he => (hb e he).w)
  cases hh : hist l n with
  | false =>
    rw [hh] at cg
    have h1 : knwB l n t = false := by simp [knwB, hh]
    have h2 : knwR l n t = [] := by simp [knwR, h1]
    rw [h1, h2]
    clear h1 h2 hb hh
    refine ACall.of (N := 67) tok Try.func41 rfl rfl rfl (by simp) ?_
    repeat' (first | with_reducible refine OutOK.done ?_ | refine thenQ_n ?_ | refine thenQ_r ?_ | refine thenQ_e ?_ | refine AW.seq ?_ | refine AW.dreg tok mixed [9, 16]  [(0, false), (1, false), (2, false), (3, false), (5, false), (6, false), (7, false), (8, false), (12, false), (13, false), (14, false), (15, false), (4, false), (9, true), (10, false), (11, false), (16, true), (17, false)] (by decide +kernel) rfl (by simp [*]; rfl) ?_ | refine AW.reg tok (by simp [*]; rfl) ?_ | refine AW.ifB (by simp [*]; rfl) ?_ | refine IfG.t ?_ | refine IfG.f ?_ | (refine IfG.p (fun hg => ?_) (fun hg => ?_) <;> (try (have hg' := hg; simp at hg'))) | (refine IfG.n (fun hg => ?_) (fun hg => ?_) <;> (try (have hg' := hg; simp at hg'))) | (refine OutOK.gateP (fun hg => ?_) (fun hg => ?_) <;> (try (have hg' := hg; simp at hg'))) | (refine OutOK.gateN (fun hg => ?_) (fun hg => ?_) <;> (try (have hg' := hg; simp at hg'))) | (refine IfG.g (fun hg => ?_) (fun hg => ?_) <;> (try (have hg' := hg; simp at hg'))) | (refine OutOK.gate (fun hg => ?_) (fun hg => ?_) <;> (try (have hg' := hg; simp at hg'))) | (refine OutOK.callF [] (by simp [*]; rfl) (by simp [*]; rfl) (by simp [*]; rfl) hb74 (by apply cg <;> first | assumption | exact Hd.out (by assumption) | ((try (clear e0)); (try (clear e1)); (try (clear e2)); (try (clear e3)); (try (clear e4)); (try (clear e5)); (try (clear e6)); (try (clear e7)); (try (clear e8)); (try (clear e9)); (try (clear e10)); (try (clear e11)); omega)) ⟨by simp [*], by simp [*], by simp [*], by simp [*], by simp [*]⟩ (by simp [*]) (by simp [*]; rfl) ?_) | (refine OutOK.callF [] (by simp [*]; rfl) (by simp [*]; rfl) (by simp [*]; rfl) hb64 (by apply c_spec_l1In <;> first | assumption | exact Hd.out (by assumption) | ((try (clear e0)); (try (clear e1)); (try (clear e2)); (try (clear e3)); (try (clear e4)); (try (clear e5)); (try (clear e6)); (try (clear e7)); (try (clear e8)); (try (clear e9)); (try (clear e10)); (try (clear e11)); omega)) ⟨by simp [*], by simp [*], by simp [*], by simp [*], by simp [*]⟩ (by simp [*]) (by simp [*]; rfl) ?_) | refine OutOK.run (by simp [*]; rfl) ?_ | refine AW.ret ?_ | refine AW.skip ?_ | refine AW.exit ?_ | refine fin_r ?_ | refine fin_n ?_ | refine AW.block ?_ | refine blockQ_n ?_ | refine blockQ_r ?_ | refine blockQ_e ?_ | refine blockQ_o rfl ?_)
    simp [Try.f41]
  | true =>
    rw [hh] at cg
    have hH := hist_iff'.1 hh
    have hR3 := inR_iff.1 hH.nn
    have e1 : wrap64 (n - 1) = n - 1 := w64 (by omega) (by omega)
    cases hR : inR 0 (n - 1) t with
    | false =>
      have h1 : knwB l n t = false := by simp [knwB, hR]
      have h2 : knwR l n t = [] := by simp [knwR, h1]
      rw [h1, h2]
      clear h1 h2 hb hh hH hR3
      refine ACall.of (N := 67) tok Try.func41 rfl rfl rfl (by simp) ?_
      repeat' (first | with_reducible refine OutOK.done ?_ | refine thenQ_n ?_ | refine thenQ_r ?_ | refine thenQ_e ?_ | refine AW.seq ?_ | refine AW.dreg tok mixed [9, 16]  [(0, false), (1, false), (2, false), (3, false), (5, false), (6, false), (7, false), (8, false), (12, false), (13, false), (14, false), (15, false), (4, false), (9, true), (10, false), (11, false), (16, true), (17, false)] (by decide +kernel) rfl (by simp [*]; rfl) ?_ | refine AW.reg tok (by simp [*]; rfl) ?_ | refine AW.ifB (by simp [*]; rfl) ?_ | refine IfG.t ?_ | refine IfG.f ?_ | (refine IfG.p (fun hg => ?_) (fun hg => ?_) <;> (try (have hg' := hg; simp at hg'))) | (refine IfG.n (fun hg => ?_) (fun hg => ?_) <;> (try (have hg' := hg; simp at hg'))) | (refine OutOK.gateP (fun hg => ?_) (fun hg => ?_) <;> (try (have hg' := hg; simp at hg'))) | (refine OutOK.gateN (fun hg => ?_) (fun hg => ?_) <;> (try (have hg' := hg; simp at hg'))) | (refine IfG.g (fun hg => ?_) (fun hg => ?_) <;> (try (have hg' := hg; simp at hg'))) | (refine OutOK.gate (fun hg => ?_) (fun hg => ?_) <;> (try (have hg' := hg; simp at hg'))) | (refine OutOK.callF [] (by simp [*]; rfl) (by simp [*]; rfl) (by simp [*]; rfl) hb74 (by apply cg <;> first | assumption | exact Hd.out (by assumption) | ((try (clear e0)); (try (clear e1)); (try (clear e2)); (try (clear e3)); (try (clear e4)); (try (clear e5)); (try (clear e6)); (try (clear e7)); (try (clear e8)); (try (clear e9)); (try (clear e10)); (try (clear e11)); omega)) ⟨by simp [*], by simp [*], by simp [*], by simp [*], by simp [*]⟩ (by simp [*]) (by simp [*]; rfl) ?_) | (refine OutOK.callF [] (by simp [*]; rfl) (by simp [*]; rfl) (by simp [*]; rfl) hb64 (by apply c_spec_l1In <;> first | assumption | exact Hd.out (by assumption) | ((try (clear e0)); (try (clear e1)); (try (clear e2)); (try (clear e3)); (try (clear e4)); (try (clear e5)); (try (clear e6)); (try (clear e7)); (try (clear e8)); (try (clear e9)); (try (clear e10)); (try (clear e11)); omega)) ⟨by simp [*], by simp [*], by simp [*], by simp [*], by simp [*]⟩ (by simp [*]) (by simp [*]; rfl) ?_) | refine OutOK.run (by simp [*]; rfl) ?_ | refine AW.ret ?_ | refine AW.skip ?_ | refine AW.exit ?_ | refine fin_r ?_ | refine fin_n ?_ | refine AW.block ?_ | refine blockQ_n ?_ | refine blockQ_r ?_ | refine blockQ_e ?_ | refine blockQ_o rfl ?_)
      simp [Try.f41]
    | true =>
      have h1 : knwB l n t = true := by simp [knwB, hR, hh]
      have h2 : knwR l n t = knwL l t := by simp [knwR, h1]
      rw [h1, h2]
      have hl24 := hist_len hh
      have ct := c_spec_l22Total l t h
      have cf := c_spec_l22Find l t (cntE l t : Nat) (by omega)
      have hkn : Hd (knwL l t = if fndE l t (cntE l t : Nat) < 0 then [] else l.filter fun x => !knP (l[(fndE l t (cntE l t : Nat)).toNat]?.getD default) x) := rfl
      have hfc := idx_cases (keyE t (cntE l t : Nat)) l
      rw [show idx (keyE t (cntE l t : Nat)) l = fndE l t (cntE l t : Nat) from rfl] at hfc
      have hck' : Hd _ := hist_ck hh
      have hkp : Hd (∀ (i k : Nat) (hi : i < l.length) (hk : k < l.length), (!knP l[k] l[i]) = decide (l[i].ct ≤ ckAt l[k].ck l[i].tm)) := fun i k hi hk => knP_iff hH hi hk
      have htm : Hd (∀ (i k : Nat) (hi : i < l.length) (hk : k < l.length), ∃ T : Nat, l[i].tm = (T : Int) ∧ T < l[k].ck.length) := fun i k hi hk => by
        have q1 := inR_iff.1 (hH.st i hi).1
        have q2 := (hH.fl k hk).1
        exact ⟨l[i].tm.toNat, by omega, by omega⟩
      generalize fndE l t (cntE l t : Nat) = F at *
      generalize knwL l t = K at *
      generalize cntE l t = c at *
      clear h1 h2 hb hh hH hR3
      rcases hfc with hf | ⟨L, rfl, hLl⟩
      · have hk := hkn.out
        rw [if_pos hf] at hk
        subst hk
        have hfn : ¬ 0 ≤ F := by omega
        clear hkn hkp htm
        refine ACall.of (N := 67) tok Try.func41 rfl rfl rfl (by simp) ?_
        repeat' (first | with_reducible refine OutOK.done ?_ | refine thenQ_n ?_ | refine thenQ_r ?_ | refine thenQ_e ?_ | refine AW.seq ?_ | refine AW.dreg tok mixed [9, 16]  [(0, false), (1, false), (2, false), (3, false), (5, false), (6, false), (7, false), (8, false), (12, false), (13, false), (14, false), (15, false), (4, false), (9, true), (10, false), (11, false), (16, true), (17, false)] (by decide +kernel) rfl (by simp [*]; rfl) ?_ | refine AW.reg tok (by simp [*]; rfl) ?_ | refine AW.ifB (by simp [*]; rfl) ?_ | refine IfG.t ?_ | refine IfG.f ?_ | (refine IfG.p (fun hg => ?_) (fun hg => ?_) <;> (try (have hg' := hg; simp at hg'))) | (refine IfG.n (fun hg => ?_) (fun hg => ?_) <;> (try (have hg' := hg; simp at hg'))) | (refine OutOK.gateP (fun hg => ?_) (fun hg => ?_) <;> (try (have hg' := hg; simp at hg'))) | (refine OutOK.gateN (fun hg => ?_) (fun hg => ?_) <;> (try (have hg' := hg; simp at hg'))) | (refine IfG.g (fun hg => ?_) (fun hg => ?_) <;> (try (have hg' := hg; simp at hg'))) | (refine OutOK.gate (fun hg => ?_) (fun hg => ?_) <;> (try (have hg' := hg; simp at hg'))) | (refine OutOK.callF [] (by simp [*]; rfl) (by simp [*]; rfl) (by simp [*]; rfl) hb74 (by apply cg <;> first | assumption | exact Hd.out (by assumption) | ((try (clear e0)); (try (clear e1)); (try (clear e2)); (try (clear e3)); (try (clear e4)); (try (clear e5)); (try (clear e6)); (try (clear e7)); (try (clear e8)); (try (clear e9)); (try (clear e10)); (try (clear e11)); omega)) ⟨by simp [*], by simp [*], by simp [*], by simp [*], by simp [*]⟩ (by simp [*]) (by simp [*]; rfl) ?_) | (refine OutOK.callF [] (by simp [*]; rfl) (by simp [*]; rfl) (by simp [*]; rfl) hb64 (by apply c_spec_l1In <;> first | assumption | exact Hd.out (by assumption) | ((try (clear e0)); (try (clear e1)); (try (clear e2)); (try (clear e3)); (try (clear e4)); (try (clear e5)); (try (clear e6)); (try (clear e7)); (try (clear e8)); (try (clear e9)); (try (clear e10)); (try (clear e11)); omega)) ⟨by simp [*], by simp [*], by simp [*], by simp [*], by simp [*]⟩ (by simp [*]) (by simp [*]; rfl) ?_) | (refine OutOK.callF [] (by simp [*]; rfl) (by simp [*]; rfl) (by simp [*]; rfl) hb90 (by apply ct <;> first | assumption | exact Hd.out (by assumption) | ((try (clear e0)); (try (clear e1)); (try (clear e2)); (try (clear e3)); (try (clear e4)); (try (clear e5)); (try (clear e6)); (try (clear e7)); (try (clear e8)); (try (clear e9)); (try (clear e10)); (try (clear e11)); omega)) ⟨by simp [*], by simp [*], by simp [*], by simp [*], by simp [*]⟩ (by simp [*]) (by simp [*]; rfl) ?_) | (refine OutOK.callF [] (by simp [*]; rfl) (by simp [*]; rfl) (by simp [*]; rfl) hb89 (by apply cf <;> first | assumption | exact Hd.out (by assumption) | ((try (clear e0)); (try (clear e1)); (try (clear e2)); (try (clear e3)); (try (clear e4)); (try (clear e5)); (try (clear e6)); (try (clear e7)); (try (clear e8)); (try (clear e9)); (try (clear e10)); (try (clear e11)); omega)) ⟨by simp [*], by simp [*], by simp [*], by simp [*], by simp [*]⟩ (by simp [*]) (by simp [*]; rfl) ?_) | refine OutOK.run (by simp [*]; rfl) ?_ | refine AW.ret ?_ | refine AW.skip ?_ | refine AW.exit ?_ | refine fin_r ?_ | refine fin_n ?_ | refine AW.block ?_ | refine blockQ_n ?_ | refine blockQ_r ?_ | refine blockQ_e ?_ | refine blockQ_o rfl ?_)
        refine AW.loopL (α := Nat) (fun i => i = 0) (fun i => [(0, .c (.sl true 5 (edts true l))), (8, .rf 11000 []), (9, .c (.sc (.int .i64 F))), (10, .c (.sc (.int .i64 (i : Int))))]) (fun _ => [(11000, .sv (.sl false 5 (edts false [])))]) (fun i => 1) 0 rfl ⟨by simp, by simp, by simp⟩ ?_
        rintro i rfl
        rcases Nat.eq_zero_or_pos l.length with h0 | h0
        · have h0' : ¬ 0 < l.length := by omega
          repeat' (first | with_reducible refine OutOK.done ?_ | refine thenQ_n ?_ | refine thenQ_r ?_ | refine thenQ_e ?_ | refine AW.seq ?_ | refine AW.dreg tok mixed [9, 16]  [(0, false), (1, false), (2, false), (3, false), (5, false), (6, false), (7, false), (8, false), (12, false), (13, false), (14, false), (15, false), (4, false), (9, true), (10, false), (11, false), (16, true), (17, false)] (by decide +kernel) rfl (by simp [*]; rfl) ?_ | refine AW.reg tok (by simp [*]; rfl) ?_ | refine AW.ifB (by simp [*]; rfl) ?_ | refine IfG.t ?_ | refine IfG.f ?_ | (refine IfG.p (fun hg => ?_) (fun hg => ?_) <;> (try (have hg' := hg; simp at hg'))) | (refine IfG.n (fun hg => ?_) (fun hg => ?_) <;> (try (have hg' := hg; simp at hg'))) | (refine OutOK.gateP (fun hg => ?_) (fun hg => ?_) <;> (try (have hg' := hg; simp at hg'))) | (refine OutOK.gateN (fun hg => ?_) (fun hg => ?_) <;> (try (have hg' := hg; simp at hg'))) | (refine IfG.g (fun hg => ?_) (fun hg => ?_) <;> (try (have hg' := hg; simp at hg'))) | (refine OutOK.gate (fun hg => ?_) (fun hg => ?_) <;> (try (have hg' := hg; simp at hg'))) | refine OutOK.run (by simp [*]; rfl) ?_ | refine AW.ret ?_ | refine AW.skip ?_ | refine AW.exit ?_ | refine fin_r ?_ | refine fin_n ?_ | refine AW.block ?_ | refine blockQ_n ?_ | refine blockQ_r ?_ | refine blockQ_e ?_ | refine blockQ_o rfl ?_)
          simp [Try.f41]
        · repeat' (first | with_reducible refine OutOK.done ?_ | refine thenQ_n ?_ | refine thenQ_r ?_ | refine thenQ_e ?_ | refine AW.seq ?_ | refine AW.dreg tok mixed [9, 16]  [(0, false), (1, false), (2, false), (3, false), (5, false), (6, false), (7, false), (8, false), (12, false), (13, false), (14, false), (15, false), (4, false), (9, true), (10, false), (11, false), (16, true), (17, false)] (by decide +kernel) rfl (by simp [*]; rfl) ?_ | refine AW.reg tok (by simp [*]; rfl) ?_ | refine AW.ifB (by simp [*]; rfl) ?_ | refine IfG.t ?_ | refine IfG.f ?_ | (refine IfG.p (fun hg => ?_) (fun hg => ?_) <;> (try (have hg' := hg; simp at hg'))) | (refine IfG.n (fun hg => ?_) (fun hg => ?_) <;> (try (have hg' := hg; simp at hg'))) | (refine OutOK.gateP (fun hg => ?_) (fun hg => ?_) <;> (try (have hg' := hg; simp at hg'))) | (refine OutOK.gateN (fun hg => ?_) (fun hg => ?_) <;> (try (have hg' := hg; simp at hg'))) | (refine IfG.g (fun hg => ?_) (fun hg => ?_) <;> (try (have hg' := hg; simp at hg'))) | (refine OutOK.gate (fun hg => ?_) (fun hg => ?_) <;> (try (have hg' := hg; simp at hg'))) | refine OutOK.run (by simp [*]; rfl) ?_ | refine AW.ret ?_ | refine AW.skip ?_ | refine AW.exit ?_ | refine fin_r ?_ | refine fin_n ?_ | refine AW.block ?_ | refine blockQ_n ?_ | refine blockQ_r ?_ | refine blockQ_e ?_ | refine blockQ_o rfl ?_)
          simp [Try.f41]
      · have hk := hkn.out
        have hLn : ¬ (L : Int) < 0 := by omega
        have hLp : 0 ≤ (L : Int) := by omega
        rw [if_neg hLn] at hk
        simp only [Int.toNat_natCast, List.getElem?_eq_getElem hLl, Option.getD_some] at hk
        subst hk
        clear hkn
        refine ACall.of (N := 67) tok Try.func41 rfl rfl rfl (by simp) ?_
        repeat' (first | with_reducible refine OutOK.done ?_ | refine thenQ_n ?_ | refine thenQ_r ?_ | refine thenQ_e ?_ | refine AW.seq ?_ | refine AW.dreg tok mixed [9, 16]  [(0, false), (1, false), (2, false), (3, false), (5, false), (6, false), (7, false), (8, false), (12, false), (13, false), (14, false), (15, false), (4, false), (9, true), (10, false), (11, false), (16, true), (17, false)] (by decide +kernel) rfl (by simp [*]; rfl) ?_ | refine AW.reg tok (by simp [*]; rfl) ?_ | refine AW.ifB (by simp [*]; rfl) ?_ | refine IfG.t ?_ | refine IfG.f ?_ | (refine IfG.p (fun hg => ?_) (fun hg => ?_) <;> (try (have hg' := hg; simp at hg'))) | (refine IfG.n (fun hg => ?_) (fun hg => ?_) <;> (try (have hg' := hg; simp at hg'))) | (refine OutOK.gateP (fun hg => ?_) (fun hg => ?_) <;> (try (have hg' := hg; simp at hg'))) | (refine OutOK.gateN (fun hg => ?_) (fun hg => ?_) <;> (try (have hg' := hg; simp at hg'))) | (refine IfG.g (fun hg => ?_) (fun hg => ?_) <;> (try (have hg' := hg; simp at hg'))) | (refine OutOK.gate (fun hg => ?_) (fun hg => ?_) <;> (try (have hg' := hg; simp at hg'))) | (refine OutOK.callF [] (by simp [*]; rfl) (by simp [*]; rfl) (by simp [*]; rfl) hb74 (by apply cg <;> first | assumption | exact Hd.out (by assumption) | ((try (clear e0)); (try (clear e1)); (try (clear e2)); (try (clear e3)); (try (clear e4)); (try (clear e5)); (try (clear e6)); (try (clear e7)); (try (clear e8)); (try (clear e9)); (try (clear e10)); (try (clear e11)); omega)) ⟨by simp [*], by simp [*], by simp [*], by simp [*], by simp [*]⟩ (by simp [*]) (by simp [*]; rfl) ?_) | (refine OutOK.callF [] (by simp [*]; rfl) (by simp [*]; rfl) (by simp [*]; rfl) hb64 (by apply c_spec_l1In <;> first | assumption | exact Hd.out (by assumption) | ((try (clear e0)); (try (clear e1)); (try (clear e2)); (try (clear e3)); (try (clear e4)); (try (clear e5)); (try (clear e6)); (try (clear e7)); (try (clear e8)); (try (clear e9)); (try (clear e10)); (try (clear e11)); omega)) ⟨by simp [*], by simp [*], by simp [*], by simp [*], by simp [*]⟩ (by simp [*]) (by simp [*]; rfl) ?_) | (refine OutOK.callF [] (by simp [*]; rfl) (by simp [*]; rfl) (by simp [*]; rfl) hb90 (by apply ct <;> first | assumption | exact Hd.out (by assumption) | ((try (clear e0)); (try (clear e1)); (try (clear e2)); (try (clear e3)); (try (clear e4)); (try (clear e5)); (try (clear e6)); (try (clear e7)); (try (clear e8)); (try (clear e9)); (try (clear e10)); (try (clear e11)); omega)) ⟨by simp [*], by simp [*], by simp [*], by simp [*], by simp [*]⟩ (by simp [*]) (by simp [*]; rfl) ?_) | (refine OutOK.callF [] (by simp [*]; rfl) (by simp [*]; rfl) (by simp [*]; rfl) hb89 (by apply cf <;> first | assumption | exact Hd.out (by assumption) | ((try (clear e0)); (try (clear e1)); (try (clear e2)); (try (clear e3)); (try (clear e4)); (try (clear e5)); (try (clear e6)); (try (clear e7)); (try (clear e8)); (try (clear e9)); (try (clear e10)); (try (clear e11)); omega)) ⟨by simp [*], by simp [*], by simp [*], by simp [*], by simp [*]⟩ (by simp [*]) (by simp [*]; rfl) ?_) | refine OutOK.run (by simp [*]; rfl) ?_ | refine AW.ret ?_ | refine AW.skip ?_ | refine AW.exit ?_ | refine fin_r ?_ | refine fin_n ?_ | refine AW.block ?_ | refine blockQ_n ?_ | refine blockQ_r ?_ | refine blockQ_e ?_ | refine blockQ_o rfl ?_)
        refine AW.loopS (α := Nat) (fun i => i ≤ l.length) (fun i => [(0, .c (.sl true 5 (edts true l))), (8, .rf 11000 []), (9, .c (.sc (.int .i64 (L : Int)))), (10, .c (.sc (.int .i64 (i : Int))))]) (fun i => [(11000, .sv (.sl false 5 (edts false ((l.take i).filter fun x => !knP l[L] x))))]) (fun i => l.length - i) 0 (Nat.zero_le _) [] (by simp) ⟨by simp, by simp, by simp⟩ ?_
        intro i hi
        rcases Nat.lt_or_ge i l.length with hl | hl
        · have e2 : wrap64 ((i : Int) + 1) = ((i + 1 : Nat) : Int) := by rw [w64 (by omega) (by omega)]; omega
          obtain ⟨T, hT, hTl⟩ := htm.out i L hl hLl
          have hkpi := hkp.out i L hl hLl
          have cy := c_spec_l22Copy l[i] (by have := hck'.out _ (List.getElem_mem hl); omega)
          have hy : Hd (knP l[L] l[i] = false → (l.take (i + 1)).filter (fun x => !knP l[L] x) = (l.take i).filter (fun x => !knP l[L] x) ++ [l[i]]) := filt_no hl
          have hno : Hd (knP l[L] l[i] = true → (l.take (i + 1)).filter (fun x => !knP l[L] x) = (l.take i).filter (fun x => !knP l[L] x)) := filt_yes hl
          have hlen : ((l.take i).filter (fun x => !knP l[L] x)).length ≤ 24 := by have := List.length_filter_le (fun x => !knP l[L] x) (l.take i); have := List.length_take_le i l; omega
          generalize hso : (l.take (i + 1)).filter (fun x => !knP l[L] x) = sn at *
          generalize (l.take i).filter (fun x => !knP l[L] x) = so at *
          have hso' : Hd _ := hso
          clear hso
          have b1 : (so.length + 1) * 72 ≤ 140737488355328 := by ((try (clear e0)); (try (clear e1)); (try (clear e2)); (try (clear e3)); (try (clear e4)); (try (clear e5)); (try (clear e6)); (try (clear e7)); (try (clear e8)); (try (clear e9)); (try (clear e10)); (try (clear e11)); omega)
          have b2 : so.length + 1 ≤ 4611686018427387904 := by ((try (clear e0)); (try (clear e1)); (try (clear e2)); (try (clear e3)); (try (clear e4)); (try (clear e5)); (try (clear e6)); (try (clear e7)); (try (clear e8)); (try (clear e9)); (try (clear e10)); (try (clear e11)); omega)
          obtain ⟨tm, ct2, ck, it, tx, he⟩ : ∃ tm ct ck it tx, l[i] = ⟨tm, ct, ck, it, tx⟩ := ⟨_, _, _, _, _, rfl⟩
          rw [he] at hT hkpi cy hy hno
          simp only at hT hkpi
          subst hT
          have hca : ckAt l[L].ck (T : Int) = l[L].ck[T] := by simp [ckAt, hTl]
          rw [hca] at hkpi
          generalize knP l[L] ⟨(T : Int), ct2, ck, it, tx⟩ = kp at *
          have hkpi' : Hd _ := hkpi
          clear hkpi hca
          by_cases hc : ct2 ≤ l[L].ck[T]
          · have hsn := hy.out (by have := hkpi'.out; simpa [hc] using this)
            have hsn' : Hd _ := hsn
            clear hsn hy hno
            repeat' (first | with_reducible refine OutOK.done ?_ | refine thenQ_n ?_ | refine thenQ_r ?_ | refine thenQ_e ?_ | refine AW.seq ?_ | refine AW.dreg tok mixed [9, 16]  [(0, false), (1, false), (2, false), (3, false), (5, false), (6, false), (7, false), (8, false), (12, false), (13, false), (14, false), (15, false), (4, false), (9, true), (10, false), (11, false), (16, true), (17, false)] (by decide +kernel) rfl (by simp [*]; rfl) ?_ | refine AW.reg tok (by simp [*]; rfl) ?_ | refine AW.ifB (by simp [*]; rfl) ?_ | refine IfG.t ?_ | refine IfG.f ?_ | (refine IfG.p (fun hg => ?_) (fun hg => ?_) <;> (try (have hg' := hg; simp at hg'))) | (refine IfG.n (fun hg => ?_) (fun hg => ?_) <;> (try (have hg' := hg; simp at hg'))) | (refine OutOK.gateP (fun hg => ?_) (fun hg => ?_) <;> (try (have hg' := hg; simp at hg'))) | (refine OutOK.gateN (fun hg => ?_) (fun hg => ?_) <;> (try (have hg' := hg; simp at hg'))) | (refine IfG.g (fun hg => ?_) (fun hg => ?_) <;> (try (have hg' := hg; simp at hg'))) | (refine OutOK.gate (fun hg => ?_) (fun hg => ?_) <;> (try (have hg' := hg; simp at hg'))) | (refine OutOK.callF [] (by simp [*]; rfl) (by simp [*]; rfl) (by simp [*]; rfl) hb91 (by apply cy <;> first | assumption | exact Hd.out (by assumption) | ((try (clear e0)); (try (clear e1)); (try (clear e2)); (try (clear e3)); (try (clear e4)); (try (clear e5)); (try (clear e6)); (try (clear e7)); (try (clear e8)); (try (clear e9)); (try (clear e10)); (try (clear e11)); omega)) ⟨by simp [*], by simp [*], by simp [*], by simp [*], by simp [*]⟩ (by simp [*]) (by simp [*]; rfl) ?_) | refine OutOK.run (by simp [*]; rfl) ?_ | refine AW.ret ?_ | refine AW.skip ?_ | refine AW.exit ?_ | refine fin_r ?_ | refine fin_n ?_ | refine AW.block ?_ | refine blockQ_n ?_ | refine blockQ_r ?_ | refine blockQ_e ?_ | refine blockQ_o rfl ?_)
            exact ⟨i + 1, hl, ⟨[(65000, 11000)], by simp, by simp, by simp [hso'.out, hsn'.out], by simp⟩, by ((try (clear e0)); (try (clear e1)); (try (clear e2)); (try (clear e3)); (try (clear e4)); (try (clear e5)); (try (clear e6)); (try (clear e7)); (try (clear e8)); (try (clear e9)); (try (clear e10)); (try (clear e11)); omega)⟩
          · have hsn := hno.out (by have := hkpi'.out; simpa [hc] using this)
            have hsn' : Hd _ := hsn
            clear hsn hy hno
            repeat' (first | with_reducible refine OutOK.done ?_ | refine thenQ_n ?_ | refine thenQ_r ?_ | refine thenQ_e ?_ | refine AW.seq ?_ | refine AW.dreg tok mixed [9, 16]  [(0, false), (1, false), (2, false), (3, false), (5, false), (6, false), (7, false), (8, false), (12, false), (13, false), (14, false), (15, false), (4, false), (9, true), (10, false), (11, false), (16, true), (17, false)] (by decide +kernel) rfl (by simp [*]; rfl) ?_ | refine AW.reg tok (by simp [*]; rfl) ?_ | refine AW.ifB (by simp [*]; rfl) ?_ | refine IfG.t ?_ | refine IfG.f ?_ | (refine IfG.p (fun hg => ?_) (fun hg => ?_) <;> (try (have hg' := hg; simp at hg'))) | (refine IfG.n (fun hg => ?_) (fun hg => ?_) <;> (try (have hg' := hg; simp at hg'))) | (refine OutOK.gateP (fun hg => ?_) (fun hg => ?_) <;> (try (have hg' := hg; simp at hg'))) | (refine OutOK.gateN (fun hg => ?_) (fun hg => ?_) <;> (try (have hg' := hg; simp at hg'))) | (refine IfG.g (fun hg => ?_) (fun hg => ?_) <;> (try (have hg' := hg; simp at hg'))) | (refine OutOK.gate (fun hg => ?_) (fun hg => ?_) <;> (try (have hg' := hg; simp at hg'))) | (refine OutOK.callF [] (by simp [*]; rfl) (by simp [*]; rfl) (by simp [*]; rfl) hb91 (by apply cy <;> first | assumption | exact Hd.out (by assumption) | ((try (clear e0)); (try (clear e1)); (try (clear e2)); (try (clear e3)); (try (clear e4)); (try (clear e5)); (try (clear e6)); (try (clear e7)); (try (clear e8)); (try (clear e9)); (try (clear e10)); (try (clear e11)); omega)) ⟨by simp [*], by simp [*], by simp [*], by simp [*], by simp [*]⟩ (by simp [*]) (by simp [*]; rfl) ?_) | refine OutOK.run (by simp [*]; rfl) ?_ | refine AW.ret ?_ | refine AW.skip ?_ | refine AW.exit ?_ | refine fin_r ?_ | refine fin_n ?_ | refine AW.block ?_ | refine blockQ_n ?_ | refine blockQ_r ?_ | refine blockQ_e ?_ | refine blockQ_o rfl ?_)
            exact ⟨i + 1, hl, ⟨[], by simp, by simp, by simp [hso'.out, hsn'.out], by simp⟩, by ((try (clear e0)); (try (clear e1)); (try (clear e2)); (try (clear e3)); (try (clear e4)); (try (clear e5)); (try (clear e6)); (try (clear e7)); (try (clear e8)); (try (clear e9)); (try (clear e10)); (try (clear e11)); omega)⟩
        · have hii : i = l.length := by omega
          have hin : ¬ i < l.length := by omega
          have ht : l.take i = l := List.take_of_length_le hl
          rw [ht]
          clear ht hii
          generalize (l.filter fun x => !knP l[L] x) = R at *
          repeat' (first | with_reducible refine OutOK.done ?_ | refine thenQ_n ?_ | refine thenQ_r ?_ | refine thenQ_e ?_ | refine AW.seq ?_ | refine AW.dreg tok mixed [9, 16]  [(0, false), (1, false), (2, false), (3, false), (5, false), (6, false), (7, false), (8, false), (12, false), (13, false), (14, false), (15, false), (4, false), (9, true), (10, false), (11, false), (16, true), (17, false)] (by decide +kernel) rfl (by simp [*]; rfl) ?_ | refine AW.reg tok (by simp [*]; rfl) ?_ | refine AW.ifB (by simp [*]; rfl) ?_ | refine IfG.t ?_ | refine IfG.f ?_ | (refine IfG.p (fun hg => ?_) (fun hg => ?_) <;> (try (have hg' := hg; simp at hg'))) | (refine IfG.n (fun hg => ?_) (fun hg => ?_) <;> (try (have hg' := hg; simp at hg'))) | (refine OutOK.gateP (fun hg => ?_) (fun hg => ?_) <;> (try (have hg' := hg; simp at hg'))) | (refine OutOK.gateN (fun hg => ?_) (fun hg => ?_) <;> (try (have hg' := hg; simp at hg'))) | (refine IfG.g (fun hg => ?_) (fun hg => ?_) <;> (try (have hg' := hg; simp at hg'))) | (refine OutOK.gate (fun hg => ?_) (fun hg => ?_) <;> (try (have hg' := hg; simp at hg'))) | refine OutOK.run (by simp [*]; rfl) ?_ | refine AW.ret ?_ | refine AW.skip ?_ | refine AW.exit ?_ | refine fin_r ?_ | refine fin_n ?_ | refine AW.block ?_ | refine blockQ_n ?_ | refine blockQ_r ?_ | refine blockQ_e ?_ | refine blockQ_o rfl ?_)
          simp [Try.f41]
end Go.Proofs.Ytbofobjofngoeaa.EngS


set_option linter.unusedSimpArgs false
set_option linter.unusedVariables false
set_option maxHeartbeats 4000000
set_option maxRecDepth 100000
namespace Go.Proofs.Ytbofobjofngoeaa.EngS
open Go Go.Proofs Go.Eng Go.RowKit
attribute [local irreducible] Go.RowKit.wrap64
theorem law_FnExactKnownBy (x : List EdtX) (n tm : Int) (hw : WfX x) (hn : (Lit.int .i64 n).wf = true) (ht : (Lit.int .i64 tm).wf = true) :
  ACall Try.prog 9 [.v (.sl true 5 (x.map fun x => PV.ag [PV.sc (.int .i64 x.1), PV.sc (.int .i64 x.2.1), PV.sl true 1 (x.2.2.1.map (fun n => PV.sc (.int .i64 n))), PV.sc (.string x.2.2.2.1), PV.sc (.string x.2.2.2.2)])), int n, int tm] [.x, .x, .x] [boo true] := by
  rw [edts_X]
  obtain ⟨h1, h2⟩ := hw.v
  clear hw hn ht
  generalize x.map edtX = l at *
  refine ACallX.one ?_
  have cz := x_laws_szEditS l 1048576 h1 h2 (by decide) (by decide)
  clear h2
  refine ACallX.of (N := 106) tok Try.func9 rfl rfl rfl (by simp) ?_
  repeat' (first | with_reducible refine OutOK.done ?_ | refine thenQ_n ?_ | refine thenQ_r ?_ | refine thenQ_e ?_ | refine AW.seq ?_ | refine AW.reg tok (by simp [*]; rfl) ?_ | refine AW.ifB (by simp [*]; rfl) ?_ | refine IfG.t ?_ | refine IfG.f ?_ | (refine IfG.p (fun hg => ?_) (fun hg => ?_) <;> (try (have hg' := hg; simp at hg'))) | (refine IfG.n (fun hg => ?_) (fun hg => ?_) <;> (try (have hg' := hg; simp at hg'))) | (refine OutOK.gateP (fun hg => ?_) (fun hg => ?_) <;> (try (have hg' := hg; simp at hg'))) | (refine OutOK.gateN (fun hg => ?_) (fun hg => ?_) <;> (try (have hg' := hg; simp at hg'))) | (refine IfG.g (fun hg => ?_) (fun hg => ?_) <;> (try (have hg' := hg; simp at hg'))) | (refine OutOK.gate (fun hg => ?_) (fun hg => ?_) <;> (try (have hg' := hg; simp at hg'))) | refine OutOK.run (by simp [*]; rfl) ?_ | refine AW.ret ?_ | refine AW.skip ?_ | refine AW.exit ?_ | refine fin_r ?_ | refine fin_n ?_ | refine AW.block ?_ | refine blockQ_n ?_ | refine blockQ_r ?_ | refine blockQ_e ?_ | refine blockQ_o rfl ?_)
  refine OutOK.callX [] (by simp [*]; rfl) (by simp [*]; rfl) (by simp [*]; rfl) hb23 (by apply cz <;> first | assumption | exact Hd.out (by assumption) | ((try (clear e0)); (try (clear e1)); (try (clear e2)); (try (clear e3)); (try (clear e4)); (try (clear e5)); (try (clear e6)); (try (clear e7)); (try (clear e8)); (try (clear e9)); (try (clear e10)); (try (clear e11)); omega)) ⟨by simp [*], by simp [*], by simp [*]⟩ (by simp [*]) (fun x hx => ?_)
  obtain ⟨-, c2⟩ := hx
  clear cz
  rcases Int.lt_or_le x 0 with hz | hz
  · clear c2
    refine CallX.mk' ⟨by simp [*], by simp [*], by simp [*], by simp [*], by simp [*]⟩ (by simp [*]; rfl) ?_
    repeat' (first | with_reducible refine OutOK.done ?_ | refine thenQ_n ?_ | refine thenQ_r ?_ | refine thenQ_e ?_ | refine AW.seq ?_ | refine AW.reg tok (by simp [*]; rfl) ?_ | refine AW.ifB (by simp [*]; rfl) ?_ | refine IfG.t ?_ | refine IfG.f ?_ | (refine IfG.p (fun hg => ?_) (fun hg => ?_) <;> (try (have hg' := hg; simp at hg'))) | (refine IfG.n (fun hg => ?_) (fun hg => ?_) <;> (try (have hg' := hg; simp at hg'))) | (refine OutOK.gateP (fun hg => ?_) (fun hg => ?_) <;> (try (have hg' := hg; simp at hg'))) | (refine OutOK.gateN (fun hg => ?_) (fun hg => ?_) <;> (try (have hg' := hg; simp at hg'))) | (refine IfG.g (fun hg => ?_) (fun hg => ?_) <;> (try (have hg' := hg; simp at hg'))) | (refine OutOK.gate (fun hg => ?_) (fun hg => ?_) <;> (try (have hg' := hg; simp at hg'))) | refine OutOK.run (by simp [*]; rfl) ?_ | refine AW.ret ?_ | refine AW.skip ?_ | refine AW.exit ?_ | refine fin_r ?_ | refine fin_n ?_ | refine AW.block ?_ | refine blockQ_n ?_ | refine blockQ_r ?_ | refine blockQ_e ?_ | refine blockQ_o rfl ?_)
    exact ⟨(), trivial, by simp [Try.f9]⟩
  obtain ⟨l1, l2, l3⟩ := c2 hz
  have hz' : ¬ x < 0 := by omega
  have ct := c_laws_toEditS l l1 l2
  have c1 := c_spec_KnownBy l n tm l1 l2
  have c2' := c_impl_KnownBy l n tm l1 l2
  have cq := c_laws_eqEditS l (by omega) (fun e he => (l2 e he).w)
  have hkl : knwR l n tm = [] ∨ ((knwR l n tm).length ≤ 24 ∧ ∀ e ∈ knwR l n tm, e.ck.length ≤ 3 ∧ EdtB e) := by
    unfold knwR
    split
    · rename_i hk
      right
      have hh : hist l n = true := by simp only [knwB, Bool.and_eq_true] at hk; exact hk.1
      have h24 := hist_len hh
      have hck := hist_ck hh
      unfold knwL
      split
      · exact ⟨by simp, by simp⟩
      · refine ⟨Nat.le_trans (List.length_filter_le _ _) h24, fun e he => ?_⟩
        have := (List.mem_filter.1 he).1
        exact ⟨hck e this, l2 e this⟩
    · exact .inl rfl
  have hkl2 : (knwR l n tm).length ≤ 24 ∧ ∀ e ∈ knwR l n tm, e.ck.length ≤ 3 ∧ EdtB e := by
    rcases hkl with e | e
    · rw [e]; exact ⟨by simp, by simp⟩
    · exact e
  clear hkl
  generalize knwB l n tm = B at *
  generalize knwR l n tm = R at *
  obtain ⟨r1, r2⟩ := hkl2
  have hcs : ckS R ≤ 3 * R.length := by
    have : ∀ q : List Edt, (∀ e ∈ q, e.ck.length ≤ 3) → ckS q ≤ 3 * q.length := by
      intro q
      induction q with
      | nil => intro _; simp [ckS]
      | cons x r ih => intro h; have h1 := h x (by simp); have h2 := ih (fun e he => h e (by simp [he])); simp only [ckS, List.length_cons]; omega
    exact this R (fun e he => (r2 e he).1)
  have cqR := c_laws_eqEditS R (by omega) (fun e he => (r2 e he).2.w)
  have ke := c_laws_markEditS l 1 l1 l3 (by omega) (by omega)
  obtain ⟨m, hm⟩ : ∃ m : Nat, 1 + totE (lens l) = m := ⟨_, rfl⟩
  rw [hm] at ke
  have hm0' : ¬ (m : Int) < 0 := by omega
  have kR := c_laws_markEditS R 1 (by omega) (by omega) (by omega) (by omega)
  have hT := totE_lens R
  have hR := c_laws_heldEditS (lens R) 1 (by simp; omega) (by omega) (fun a ha => by
    obtain ⟨e, he, rfl⟩ := List.mem_map.1 ha
    have := (r2 e he).1; omega) (by omega) (by omega)
  obtain ⟨mR, hmR⟩ : ∃ m : Nat, 1 + totE (lens R) = m := ⟨_, rfl⟩
  rw [hmR] at kR hR
  have hmR' : ¬ (mR : Int) < 0 := by omega
  clear hm hmR l3 l2 c2 r2 hT hcs
  refine CallX.mk' ⟨by simp [*], by simp [*], by simp [*], by simp [*], by simp [*]⟩ (by simp [*]; rfl) ?_
  repeat' (first | with_reducible refine OutOK.done ?_ | refine thenQ_n ?_ | refine thenQ_r ?_ | refine thenQ_e ?_ | refine AW.seq ?_ | refine AW.reg tok (by simp [*]; rfl) ?_ | refine AW.ifB (by simp [*]; rfl) ?_ | refine IfG.t ?_ | refine IfG.f ?_ | (refine IfG.p (fun hg => ?_) (fun hg => ?_) <;> (try (have hg' := hg; simp at hg'))) | (refine IfG.n (fun hg => ?_) (fun hg => ?_) <;> (try (have hg' := hg; simp at hg'))) | (refine OutOK.gateP (fun hg => ?_) (fun hg => ?_) <;> (try (have hg' := hg; simp at hg'))) | (refine OutOK.gateN (fun hg => ?_) (fun hg => ?_) <;> (try (have hg' := hg; simp at hg'))) | (refine IfG.g (fun hg => ?_) (fun hg => ?_) <;> (try (have hg' := hg; simp at hg'))) | (refine OutOK.gate (fun hg => ?_) (fun hg => ?_) <;> (try (have hg' := hg; simp at hg'))) | (refine OutOK.callF [] (by simp [*]; rfl) (by simp [*]; rfl) (by simp [*]; rfl) hb25 (by apply ct <;> first | assumption | exact Hd.out (by assumption) | ((try (clear e0)); (try (clear e1)); (try (clear e2)); (try (clear e3)); (try (clear e4)); (try (clear e5)); (try (clear e6)); (try (clear e7)); (try (clear e8)); (try (clear e9)); (try (clear e10)); (try (clear e11)); omega)) ⟨by simp [*], by simp [*], by simp [*], by simp [*], by simp [*]⟩ (by simp [*]) (by simp [*]; rfl) ?_) | (refine OutOK.callF [] (by simp [*]; rfl) (by simp [*]; rfl) (by simp [*]; rfl) hb41 (by apply c1 <;> first | assumption | exact Hd.out (by assumption) | ((try (clear e0)); (try (clear e1)); (try (clear e2)); (try (clear e3)); (try (clear e4)); (try (clear e5)); (try (clear e6)); (try (clear e7)); (try (clear e8)); (try (clear e9)); (try (clear e10)); (try (clear e11)); omega)) ⟨by simp [*], by simp [*], by simp [*], by simp [*], by simp [*]⟩ (by simp [*]) (by simp [*]; rfl) ?_) | (refine OutOK.callF [] (by simp [*]; rfl) (by simp [*]; rfl) (by simp [*]; rfl) hb42 (by apply c2' <;> first | assumption | exact Hd.out (by assumption) | ((try (clear e0)); (try (clear e1)); (try (clear e2)); (try (clear e3)); (try (clear e4)); (try (clear e5)); (try (clear e6)); (try (clear e7)); (try (clear e8)); (try (clear e9)); (try (clear e10)); (try (clear e11)); omega)) ⟨by simp [*], by simp [*], by simp [*], by simp [*], by simp [*]⟩ (by simp [*]) (by simp [*]; rfl) ?_) | (refine OutOK.callF [] (by simp [*]; rfl) (by simp [*]; rfl) (by simp [*]; rfl) hb27 (by apply cq <;> first | assumption | exact Hd.out (by assumption) | ((try (clear e0)); (try (clear e1)); (try (clear e2)); (try (clear e3)); (try (clear e4)); (try (clear e5)); (try (clear e6)); (try (clear e7)); (try (clear e8)); (try (clear e9)); (try (clear e10)); (try (clear e11)); omega)) ⟨by simp [*], by simp [*], by simp [*], by simp [*], by simp [*]⟩ (by simp [*]) (by simp [*]; rfl) ?_) | (refine OutOK.callF [] (by simp [*]; rfl) (by simp [*]; rfl) (by simp [*]; rfl) hb27 (by apply cqR <;> first | assumption | exact Hd.out (by assumption) | ((try (clear e0)); (try (clear e1)); (try (clear e2)); (try (clear e3)); (try (clear e4)); (try (clear e5)); (try (clear e6)); (try (clear e7)); (try (clear e8)); (try (clear e9)); (try (clear e10)); (try (clear e11)); omega)) ⟨by simp [*], by simp [*], by simp [*], by simp [*], by simp [*]⟩ (by simp [*]) (by simp [*]; rfl) ?_) | (refine OutOK.callF [true, false] (by simp [*]; rfl) (by simp [*]; rfl) (by simp [*]; rfl) hb33 (by apply ke <;> first | assumption | exact Hd.out (by assumption) | ((try (clear e0)); (try (clear e1)); (try (clear e2)); (try (clear e3)); (try (clear e4)); (try (clear e5)); (try (clear e6)); (try (clear e7)); (try (clear e8)); (try (clear e9)); (try (clear e10)); (try (clear e11)); omega)) ⟨by simp [*], by simp [*], by simp [*], by simp [*], by simp [*]⟩ (by simp [*]) (by simp [*]; rfl) ?_) | (refine OutOK.callF [true, false] (by simp [*]; rfl) (by simp [*]; rfl) (by simp [*]; rfl) hb33 (by apply kR <;> first | assumption | exact Hd.out (by assumption) | ((try (clear e0)); (try (clear e1)); (try (clear e2)); (try (clear e3)); (try (clear e4)); (try (clear e5)); (try (clear e6)); (try (clear e7)); (try (clear e8)); (try (clear e9)); (try (clear e10)); (try (clear e11)); omega)) ⟨by simp [*], by simp [*], by simp [*], by simp [*], by simp [*]⟩ (by simp [*]) (by simp [*]; rfl) ?_) | (refine OutOK.callF [] (by simp [*]; rfl) (by simp [*]; rfl) (by simp [*]; rfl) hb43 (by apply hR <;> first | assumption | exact Hd.out (by assumption) | ((try (clear e0)); (try (clear e1)); (try (clear e2)); (try (clear e3)); (try (clear e4)); (try (clear e5)); (try (clear e6)); (try (clear e7)); (try (clear e8)); (try (clear e9)); (try (clear e10)); (try (clear e11)); omega)) ⟨by simp [*], by simp [*], by simp [*], by simp [*], by simp [*]⟩ (by simp [*]) (by simp [*]; rfl) ?_) | refine OutOK.run (by simp [*]; rfl) ?_ | refine AW.ret ?_ | refine AW.skip ?_ | refine AW.exit ?_ | refine fin_r ?_ | refine fin_n ?_ | refine AW.block ?_ | refine blockQ_n ?_ | refine blockQ_r ?_ | refine blockQ_e ?_ | refine blockQ_o rfl ?_)
  exact ⟨(), trivial, by simp [Try.f9]⟩
end Go.Proofs.Ytbofobjofngoeaa.EngS

