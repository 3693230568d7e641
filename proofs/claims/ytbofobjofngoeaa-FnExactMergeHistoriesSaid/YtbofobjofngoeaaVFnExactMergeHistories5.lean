-- Written by this session's texts and program for this claim. Lean checks it.
import Derived.Shelf.Strings.Shaped
import Derived.Shelf.Sort.Plain
import Derived.Shelf.Slices.In.SortNone
import Derived.Shelf.SlSortCmp.WholeK
import Derived.Shelf.SlGeneric
import Derived.Ground.SlsfProg
import Derived.Ground.NamesProg
import Derived.Test.YtbofobjofngoeaaProg
import Derived.Shelf.SlSortCmp.NoneTotal
import Derived.Test.YtbofobjofngoeaaVFnExactMergeHistories4
set_option autoImplicit true
set_option relaxedAutoImplicit true
set_option linter.unusedSimpArgs false
set_option linter.unusedVariables false
set_option maxHeartbeats 4000000
set_option maxRecDepth 100000
namespace Go.Proofs.Ytbofobjofngoeaa.EngS
open Go Go.Proofs Go.Eng Go.RowKit
def Ih2Q (l : List Edt) (n : Int) (i : Nat) (h : i < l.length) (e : Exit) (st : St) : Prop :=
  (e = .ret ∧ ¬ (∀ t < l[i].ck.length, inR 0 (cntE l (t : Int)) (ckAt l[i].ck (t : Int)) = true) ∧ FinP T Try.f26.results.toList [.v (.sl true 5 (edts true l)), int n] [.x, .x] [boo false] st) ∨
  (e = .normal ∧ (∀ t < l[i].ck.length, inR 0 (cntE l (t : Int)) (ckAt l[i].ck (t : Int)) = true) ∧ LessL st [(0, .c (.sl true 5 (edts true l))), (1, .c (.sc (.int .i64 n))), (5, .rf 25000 []), (100, .c (.sl true 5 (edts true l))), (101, .c (.sc (.int .i64 (l.length : Int)))), (102, .c (.sc (.int .i64 ((i + 1 : Nat) : Int))))] [(25000, .sv (.sl false 1 (ints (cts l n l.length))))])
theorem w_ih2 (l : List Edt) (n : Int) (i : Nat) (h : i < l.length) (hl : l.length ≤ 24) (h1 : 1 ≤ n) (h3 : n ≤ 3) (hln : (l[i].ck.length : Int) = n) : AW Try.prog 152 (cAt Try.f26 [2, 2, 2, 2, 1, 2, 5, 7]) (mk [(0, .c (.sl true 5 (edts true l))), (1, .c (.sc (.int .i64 n))), (5, .rf 25000 []), (100, .c (.sl true 5 (edts true l))), (101, .c (.sc (.int .i64 (l.length : Int)))), (102, .c (.sc (.int .i64 (i : Int))))] [(25000, .sv (.sl false 1 (ints (cts l n l.length))))]) (Ih2Q l n i h) := by
  have e1 : wrap64 ((i : Int) + 1) = ((i + 1 : Nat) : Int) := by rw [w64 (by omega) (by omega)]; omega
  have hat : Hd (∀ t (h : t < (cts l n l.length).length), (cts l n l.length)[t] = ((cntE l (t : Int) : Nat) : Int)) := fun t h => by rw [cts_at, List.take_length]
  have hcl : Hd ((cts l n l.length).length = n.toNat) := cts_len _ _ _
  have hck3 : l[i].ck.length ≤ 3 := by omega
  have hln' : Hd _ := hln
  clear hln
  generalize hcts : cts l n l.length = cl at *
  have hcts' : Hd _ := hcts
  clear hcts
  repeat' (first | with_reducible refine OutOK.done ?_ | refine thenQ_n ?_ | refine thenQ_r ?_ | refine thenQ_e ?_ | refine AW.seq ?_ | refine AW.dreg tok mixed [15, 25, 26, 27, 28]  [(0, false), (2, false), (3, false), (1, false), (4, false), (5, false), (6, false), (7, false), (8, false), (9, false), (10, false), (11, false), (12, false), (13, false), (14, false), (15, true), (16, false), (17, false), (18, false), (19, false), (20, false), (21, false), (23, false), (24, false), (22, false), (25, true), (26, true), (27, true), (28, true), (29, false), (30, false)] (by decide +kernel) rfl (by simp [*]; rfl) ?_ | refine AW.dreg tok mixed [9, 13]  [(0, false), (3, false), (1, false), (2, false), (4, false), (5, false), (6, false), (8, false), (12, false), (7, false), (9, true), (10, false), (11, false), (13, true), (14, false), (15, false), (16, false), (17, false), (18, false), (19, false), (20, false), (21, false), (22, false), (23, false), (24, false), (25, false), (26, false), (27, false)] (by decide +kernel) rfl (by simp [*]; rfl) ?_ | refine AW.reg tok (by simp [*]; rfl) ?_ | refine AW.ifB (by simp [*]; rfl) ?_ | refine IfG.t ?_ | refine IfG.f ?_ | (refine IfG.p (fun hg => ?_) (fun hg => ?_) <;> (try (have hg' := hg; simp at hg'))) | (refine IfG.n (fun hg => ?_) (fun hg => ?_) <;> (try (have hg' := hg; simp at hg'))) | (refine OutOK.gateP (fun hg => ?_) (fun hg => ?_) <;> (try (have hg' := hg; simp at hg'))) | (refine OutOK.gateN (fun hg => ?_) (fun hg => ?_) <;> (try (have hg' := hg; simp at hg'))) | (refine IfG.g (fun hg => ?_) (fun hg => ?_) <;> (try (have hg' := hg; simp at hg'))) | (refine OutOK.gate (fun hg => ?_) (fun hg => ?_) <;> (try (have hg' := hg; simp at hg'))) | refine OutOK.run (by simp [*]; rfl) ?_ | refine AW.ret ?_ | refine AW.skip ?_ | refine AW.exit ?_ | refine fin_r ?_ | refine fin_n ?_ | refine AW.block ?_ | refine blockQ_n ?_ | refine blockQ_r ?_ | refine blockQ_e ?_ | refine blockQ_o rfl ?_)
  refine AW.loopL (α := Nat) (fun t => t ≤ l[i].ck.length ∧ Hd (∀ j < t, inR 0 (cntE l (j : Int)) (ckAt l[i].ck (j : Int)) = true)) (fun t => [(0, .c (.sl true 5 (edts true l))), (1, .c (.sc (.int .i64 n))), (5, .rf 25000 []), (100, .c (.sl true 5 (edts true l))), (101, .c (.sc (.int .i64 (l.length : Int)))), (102, .c (.sc (.int .i64 (i : Int)))), (107, .c (.sl true 1 (ints l[i].ck))), (108, .c (.sc (.int .i64 (l[i].ck.length : Int)))), (109, .c (.sc (.int .i64 (t : Int))))]) (fun _ => [(25000, .sv (.sl false 1 (ints cl)))]) (fun t => l[i].ck.length - t) 0 ⟨Nat.zero_le _, fun j hj => by omega⟩ ⟨by simp, by simp, by simp⟩ ?_
  rintro t ⟨ht, hs⟩
  rcases Nat.lt_or_ge t l[i].ck.length with htl | htl
  · have e2 : wrap64 ((t : Int) + 1) = ((t + 1 : Nat) : Int) := by rw [w64 (by omega) (by omega)]; omega
    have htc : t < cl.length := by have := hcl.out; have := hln'.out; omega
    have h2 := hat.out t htc
    have hca : Hd (ckAt l[i].ck (t : Int) = l[i].ck[t]) := by simp [Hd, ckAt, htl]
    have hR0 : Hd (inR 0 (cntE l (t : Int)) (ckAt l[i].ck (t : Int)) = inR 0 (cntE l (t : Int)) l[i].ck[t]) := by rw [Hd, hca.out]
    generalize hcn : cntE l (t : Int) = c at *
    cases hR : inR 0 (c : Int) l[i].ck[t] with
    | false =>
      have hb : Hd (¬ (∀ t < l[i].ck.length, inR 0 (cntE l (t : Int)) (ckAt l[i].ck (t : Int)) = true)) := fun hh => by have := hh t htl; rw [hcn, hR0.out, hR] at this; cases this
      clear hcn
      repeat' (first | with_reducible refine OutOK.done ?_ | refine thenQ_n ?_ | refine thenQ_r ?_ | refine thenQ_e ?_ | refine AW.seq ?_ | refine AW.dreg tok mixed [15, 25, 26, 27, 28]  [(0, false), (2, false), (3, false), (1, false), (4, false), (5, false), (6, false), (7, false), (8, false), (9, false), (10, false), (11, false), (12, false), (13, false), (14, false), (15, true), (16, false), (17, false), (18, false), (19, false), (20, false), (21, false), (23, false), (24, false), (22, false), (25, true), (26, true), (27, true), (28, true), (29, false), (30, false)] (by decide +kernel) rfl (by simp [*]; rfl) ?_ | refine AW.dreg tok mixed [9, 13]  [(0, false), (3, false), (1, false), (2, false), (4, false), (5, false), (6, false), (8, false), (12, false), (7, false), (9, true), (10, false), (11, false), (13, true), (14, false), (15, false), (16, false), (17, false), (18, false), (19, false), (20, false), (21, false), (22, false), (23, false), (24, false), (25, false), (26, false), (27, false)] (by decide +kernel) rfl (by simp [*]; rfl) ?_ | refine AW.reg tok (by simp [*]; rfl) ?_ | refine AW.ifB (by simp [*]; rfl) ?_ | refine IfG.t ?_ | refine IfG.f ?_ | (refine IfG.p (fun hg => ?_) (fun hg => ?_) <;> (try (have hg' := hg; simp at hg'))) | (refine IfG.n (fun hg => ?_) (fun hg => ?_) <;> (try (have hg' := hg; simp at hg'))) | (refine OutOK.gateP (fun hg => ?_) (fun hg => ?_) <;> (try (have hg' := hg; simp at hg'))) | (refine OutOK.gateN (fun hg => ?_) (fun hg => ?_) <;> (try (have hg' := hg; simp at hg'))) | (refine IfG.g (fun hg => ?_) (fun hg => ?_) <;> (try (have hg' := hg; simp at hg'))) | (refine OutOK.gate (fun hg => ?_) (fun hg => ?_) <;> (try (have hg' := hg; simp at hg'))) | (refine OutOK.callF [] (by simp [*]; rfl) (by simp [*]; rfl) (by simp [*]; rfl) hb59 (by apply c_impl_within <;> first | assumption | exact Hd.out (by assumption) | ((try (clear e0)); (try (clear e1)); (try (clear e2)); (try (clear e3)); (try (clear e4)); (try (clear e5)); (try (clear e6)); (try (clear e7)); (try (clear e8)); (try (clear e9)); (try (clear e10)); (try (clear e11)); omega)) ⟨by simp [*], by simp [*], by simp [*], by simp [*], by simp [*]⟩ (by simp [*]) (by simp [*]; rfl) ?_) | refine OutOK.run (by simp [*]; rfl) ?_ | refine AW.ret ?_ | refine AW.skip ?_ | refine AW.exit ?_ | refine fin_r ?_ | refine fin_n ?_ | refine AW.block ?_ | refine blockQ_n ?_ | refine blockQ_r ?_ | refine blockQ_e ?_ | refine blockQ_o rfl ?_)
      exact .inl ⟨rfl, hb.out, by simp [Try.f26]⟩
    | true =>
      have hs2 : Hd (∀ j < t + 1, inR 0 (cntE l (j : Int)) (ckAt l[i].ck (j : Int)) = true) := by
        intro j hj
        rcases Nat.lt_succ_iff_lt_or_eq.1 hj with h2 | rfl
        · exact hs.out j h2
        · rw [hcn, hR0.out, hR]
      clear hcn
      repeat' (first | with_reducible refine OutOK.done ?_ | refine thenQ_n ?_ | refine thenQ_r ?_ | refine thenQ_e ?_ | refine AW.seq ?_ | refine AW.dreg tok mixed [15, 25, 26, 27, 28]  [(0, false), (2, false), (3, false), (1, false), (4, false), (5, false), (6, false), (7, false), (8, false), (9, false), (10, false), (11, false), (12, false), (13, false), (14, false), (15, true), (16, false), (17, false), (18, false), (19, false), (20, false), (21, false), (23, false), (24, false), (22, false), (25, true), (26, true), (27, true), (28, true), (29, false), (30, false)] (by decide +kernel) rfl (by simp [*]; rfl) ?_ | refine AW.dreg tok mixed [9, 13]  [(0, false), (3, false), (1, false), (2, false), (4, false), (5, false), (6, false), (8, false), (12, false), (7, false), (9, true), (10, false), (11, false), (13, true), (14, false), (15, false), (16, false), (17, false), (18, false), (19, false), (20, false), (21, false), (22, false), (23, false), (24, false), (25, false), (26, false), (27, false)] (by decide +kernel) rfl (by simp [*]; rfl) ?_ | refine AW.reg tok (by simp [*]; rfl) ?_ | refine AW.ifB (by simp [*]; rfl) ?_ | refine IfG.t ?_ | refine IfG.f ?_ | (refine IfG.p (fun hg => ?_) (fun hg => ?_) <;> (try (have hg' := hg; simp at hg'))) | (refine IfG.n (fun hg => ?_) (fun hg => ?_) <;> (try (have hg' := hg; simp at hg'))) | (refine OutOK.gateP (fun hg => ?_) (fun hg => ?_) <;> (try (have hg' := hg; simp at hg'))) | (refine OutOK.gateN (fun hg => ?_) (fun hg => ?_) <;> (try (have hg' := hg; simp at hg'))) | (refine IfG.g (fun hg => ?_) (fun hg => ?_) <;> (try (have hg' := hg; simp at hg'))) | (refine OutOK.gate (fun hg => ?_) (fun hg => ?_) <;> (try (have hg' := hg; simp at hg'))) | (refine OutOK.callF [] (by simp [*]; rfl) (by simp [*]; rfl) (by simp [*]; rfl) hb59 (by apply c_impl_within <;> first | assumption | exact Hd.out (by assumption) | ((try (clear e0)); (try (clear e1)); (try (clear e2)); (try (clear e3)); (try (clear e4)); (try (clear e5)); (try (clear e6)); (try (clear e7)); (try (clear e8)); (try (clear e9)); (try (clear e10)); (try (clear e11)); omega)) ⟨by simp [*], by simp [*], by simp [*], by simp [*], by simp [*]⟩ (by simp [*]) (by simp [*]; rfl) ?_) | refine OutOK.run (by simp [*]; rfl) ?_ | refine AW.ret ?_ | refine AW.skip ?_ | refine AW.exit ?_ | refine fin_r ?_ | refine fin_n ?_ | refine AW.block ?_ | refine blockQ_n ?_ | refine blockQ_r ?_ | refine blockQ_e ?_ | refine blockQ_o rfl ?_)
      exact ⟨t + 1, ⟨htl, hs2⟩, ⟨by simp, by simp, by simp⟩, by ((try (clear e0)); (try (clear e1)); (try (clear e2)); (try (clear e3)); (try (clear e4)); (try (clear e5)); (try (clear e6)); (try (clear e7)); (try (clear e8)); (try (clear e9)); (try (clear e10)); (try (clear e11)); omega)⟩
  · have htn : ¬ t < l[i].ck.length := by omega
    have hs2 : Hd (∀ j < l[i].ck.length, inR 0 (cntE l (j : Int)) (ckAt l[i].ck (j : Int)) = true) := fun j hj => hs.out j (by omega)
    repeat' (first | with_reducible refine OutOK.done ?_ | refine thenQ_n ?_ | refine thenQ_r ?_ | refine thenQ_e ?_ | refine AW.seq ?_ | refine AW.dreg tok mixed [15, 25, 26, 27, 28]  [(0, false), (2, false), (3, false), (1, false), (4, false), (5, false), (6, false), (7, false), (8, false), (9, false), (10, false), (11, false), (12, false), (13, false), (14, false), (15, true), (16, false), (17, false), (18, false), (19, false), (20, false), (21, false), (23, false), (24, false), (22, false), (25, true), (26, true), (27, true), (28, true), (29, false), (30, false)] (by decide +kernel) rfl (by simp [*]; rfl) ?_ | refine AW.dreg tok mixed [9, 13]  [(0, false), (3, false), (1, false), (2, false), (4, false), (5, false), (6, false), (8, false), (12, false), (7, false), (9, true), (10, false), (11, false), (13, true), (14, false), (15, false), (16, false), (17, false), (18, false), (19, false), (20, false), (21, false), (22, false), (23, false), (24, false), (25, false), (26, false), (27, false)] (by decide +kernel) rfl (by simp [*]; rfl) ?_ | refine AW.reg tok (by simp [*]; rfl) ?_ | refine AW.ifB (by simp [*]; rfl) ?_ | refine IfG.t ?_ | refine IfG.f ?_ | (refine IfG.p (fun hg => ?_) (fun hg => ?_) <;> (try (have hg' := hg; simp at hg'))) | (refine IfG.n (fun hg => ?_) (fun hg => ?_) <;> (try (have hg' := hg; simp at hg'))) | (refine OutOK.gateP (fun hg => ?_) (fun hg => ?_) <;> (try (have hg' := hg; simp at hg'))) | (refine OutOK.gateN (fun hg => ?_) (fun hg => ?_) <;> (try (have hg' := hg; simp at hg'))) | (refine IfG.g (fun hg => ?_) (fun hg => ?_) <;> (try (have hg' := hg; simp at hg'))) | (refine OutOK.gate (fun hg => ?_) (fun hg => ?_) <;> (try (have hg' := hg; simp at hg'))) | refine OutOK.run (by simp [*]; rfl) ?_ | refine AW.ret ?_ | refine AW.skip ?_ | refine AW.exit ?_ | refine fin_r ?_ | refine fin_n ?_ | refine AW.block ?_ | refine blockQ_n ?_ | refine blockQ_r ?_ | refine blockQ_e ?_ | refine blockQ_o rfl ?_)
    exact .inr ⟨rfl, hs2.out, by simp, by simp [hcts'.out], by simp⟩
def Ih3Q (l : List Edt) (n : Int) (i k : Nat) (h : i < l.length) (hk : k < l.length) (e : Exit) (st : St) : Prop :=
  (e = .ret ∧ ¬ (precE l[k] l[i] = true → precE l[i] l[k] = false ∧ noGr l[k].ck l[i].ck = true) ∧ FinP T Try.f26.results.toList [.v (.sl true 5 (edts true l)), int n] [.x, .x] [boo false] st) ∨
  (e = .normal ∧ (precE l[k] l[i] = true → precE l[i] l[k] = false ∧ noGr l[k].ck l[i].ck = true) ∧ LessL st [(0, .c (.sl true 5 (edts true l))), (1, .c (.sc (.int .i64 n))), (13, .pt 13000 []  0), (123, .c (.sl true 5 (edts true l))), (124, .c (.sc (.int .i64 (l.length : Int)))), (125, .c (.sc (.int .i64 (i : Int)))), (129, .c (.sl true 5 (edts true l))), (130, .c (.sc (.int .i64 (l.length : Int)))), (131, .c (.sc (.int .i64 ((k + 1 : Nat) : Int))))] [(13000, .bx (edtC true l[i]))])
theorem w_ih3a (l : List Edt) (n : Int) (i k : Nat) (h : i < l.length) (hk : k < l.length) (hl : l.length ≤ 24) (hli : l[i].ck.length ≤ 3) (hlk : l[k].ck.length = l[i].ck.length) (p1 : precE l[k] l[i] = false) : AW Try.prog 152 (cAt Try.f26 [2, 2, 2, 2, 2, 1, 2, 5, 7, 2, 2, 1, 5, 2, 2, 5, 7]) (mk [(0, .c (.sl true 5 (edts true l))), (1, .c (.sc (.int .i64 n))), (13, .pt 13000 []  0), (123, .c (.sl true 5 (edts true l))), (124, .c (.sc (.int .i64 (l.length : Int)))), (125, .c (.sc (.int .i64 (i : Int)))), (129, .c (.sl true 5 (edts true l))), (130, .c (.sc (.int .i64 (l.length : Int)))), (131, .c (.sc (.int .i64 (k : Int))))] [(13000, .bx (edtC true l[i]))]) (Ih3Q l n i k h hk) := by
  have e1 : wrap64 ((k : Int) + 1) = ((k + 1 : Nat) : Int) := by rw [w64 (by omega) (by omega)]; omega
  have c1 := c_impl_Precedes l[k] l[i] (by omega)
  rw [p1] at c1
  have hb : Hd ((precE l[k] l[i] = true → precE l[i] l[k] = false ∧ noGr l[k].ck l[i].ck = true)) := fun hh => by rw [p1] at hh; cases hh
  clear p1 hlk hli
  repeat' (first | with_reducible refine OutOK.done ?_ | refine thenQ_n ?_ | refine thenQ_r ?_ | refine thenQ_e ?_ | refine AW.seq ?_ | refine AW.dreg tok mixed [15, 25, 26, 27, 28]  [(0, false), (2, false), (3, false), (1, false), (4, false), (5, false), (6, false), (7, false), (8, false), (9, false), (10, false), (11, false), (12, false), (13, false), (14, false), (15, true), (16, false), (17, false), (18, false), (19, false), (20, false), (21, false), (23, false), (24, false), (22, false), (25, true), (26, true), (27, true), (28, true), (29, false), (30, false)] (by decide +kernel) rfl (by simp [*]; rfl) ?_ | refine AW.dreg tok mixed [9, 13]  [(0, false), (3, false), (1, false), (2, false), (4, false), (5, false), (6, false), (8, false), (12, false), (7, false), (9, true), (10, false), (11, false), (13, true), (14, false), (15, false), (16, false), (17, false), (18, false), (19, false), (20, false), (21, false), (22, false), (23, false), (24, false), (25, false), (26, false), (27, false)] (by decide +kernel) rfl (by simp [*]; rfl) ?_ | refine AW.reg tok (by simp [*]; rfl) ?_ | refine AW.ifB (by simp [*]; rfl) ?_ | refine IfG.t ?_ | refine IfG.f ?_ | (refine IfG.p (fun hg => ?_) (fun hg => ?_) <;> (try (have hg' := hg; simp at hg'))) | (refine IfG.n (fun hg => ?_) (fun hg => ?_) <;> (try (have hg' := hg; simp at hg'))) | (refine OutOK.gateP (fun hg => ?_) (fun hg => ?_) <;> (try (have hg' := hg; simp at hg'))) | (refine OutOK.gateN (fun hg => ?_) (fun hg => ?_) <;> (try (have hg' := hg; simp at hg'))) | (refine IfG.g (fun hg => ?_) (fun hg => ?_) <;> (try (have hg' := hg; simp at hg'))) | (refine OutOK.gate (fun hg => ?_) (fun hg => ?_) <;> (try (have hg' := hg; simp at hg'))) | (refine OutOK.callF [] (by simp [*]; rfl) (by simp [*]; rfl) (by simp [*]; rfl) hb40 (by apply c1 <;> first | assumption | exact Hd.out (by assumption) | ((try (clear e0)); (try (clear e1)); (try (clear e2)); (try (clear e3)); (try (clear e4)); (try (clear e5)); (try (clear e6)); (try (clear e7)); (try (clear e8)); (try (clear e9)); (try (clear e10)); (try (clear e11)); omega)) ⟨by simp [*], by simp [*], by simp [*], by simp [*], by simp [*]⟩ (by simp [*]) (by simp [*]; rfl) ?_) | refine OutOK.run (by simp [*]; rfl) ?_ | refine AW.ret ?_ | refine AW.skip ?_ | refine AW.exit ?_ | refine fin_r ?_ | refine fin_n ?_ | refine AW.block ?_ | refine blockQ_n ?_ | refine blockQ_r ?_ | refine blockQ_e ?_ | refine blockQ_o rfl ?_)
  exact .inr ⟨rfl, hb.out, by simp, by simp, by simp⟩
theorem w_ih3b (l : List Edt) (n : Int) (i k : Nat) (h : i < l.length) (hk : k < l.length) (hl : l.length ≤ 24) (hli : l[i].ck.length ≤ 3) (hlk : l[k].ck.length = l[i].ck.length) (p1 : precE l[k] l[i] = true) (p2 : precE l[i] l[k] = true) : AW Try.prog 152 (cAt Try.f26 [2, 2, 2, 2, 2, 1, 2, 5, 7, 2, 2, 1, 5, 2, 2, 5, 7]) (mk [(0, .c (.sl true 5 (edts true l))), (1, .c (.sc (.int .i64 n))), (13, .pt 13000 []  0), (123, .c (.sl true 5 (edts true l))), (124, .c (.sc (.int .i64 (l.length : Int)))), (125, .c (.sc (.int .i64 (i : Int)))), (129, .c (.sl true 5 (edts true l))), (130, .c (.sc (.int .i64 (l.length : Int)))), (131, .c (.sc (.int .i64 (k : Int))))] [(13000, .bx (edtC true l[i]))]) (Ih3Q l n i k h hk) := by
  have e1 : wrap64 ((k : Int) + 1) = ((k + 1 : Nat) : Int) := by rw [w64 (by omega) (by omega)]; omega
  have c1 := c_impl_Precedes l[k] l[i] (by omega)
  rw [p1] at c1
  have c2 := c_impl_Precedes l[i] l[k] (by omega)
  rw [p2] at c2
  have hb : Hd (¬ (precE l[k] l[i] = true → precE l[i] l[k] = false ∧ noGr l[k].ck l[i].ck = true)) := fun hh => by have := (hh p1).1; rw [p2] at this; cases this
  clear p1 p2 hlk hli
  repeat' (first | with_reducible refine OutOK.done ?_ | refine thenQ_n ?_ | refine thenQ_r ?_ | refine thenQ_e ?_ | refine AW.seq ?_ | refine AW.dreg tok mixed [15, 25, 26, 27, 28]  [(0, false), (2, false), (3, false), (1, false), (4, false), (5, false), (6, false), (7, false), (8, false), (9, false), (10, false), (11, false), (12, false), (13, false), (14, false), (15, true), (16, false), (17, false), (18, false), (19, false), (20, false), (21, false), (23, false), (24, false), (22, false), (25, true), (26, true), (27, true), (28, true), (29, false), (30, false)] (by decide +kernel) rfl (by simp [*]; rfl) ?_ | refine AW.dreg tok mixed [9, 13]  [(0, false), (3, false), (1, false), (2, false), (4, false), (5, false), (6, false), (8, false), (12, false), (7, false), (9, true), (10, false), (11, false), (13, true), (14, false), (15, false), (16, false), (17, false), (18, false), (19, false), (20, false), (21, false), (22, false), (23, false), (24, false), (25, false), (26, false), (27, false)] (by decide +kernel) rfl (by simp [*]; rfl) ?_ | refine AW.reg tok (by simp [*]; rfl) ?_ | refine AW.ifB (by simp [*]; rfl) ?_ | refine IfG.t ?_ | refine IfG.f ?_ | (refine IfG.p (fun hg => ?_) (fun hg => ?_) <;> (try (have hg' := hg; simp at hg'))) | (refine IfG.n (fun hg => ?_) (fun hg => ?_) <;> (try (have hg' := hg; simp at hg'))) | (refine OutOK.gateP (fun hg => ?_) (fun hg => ?_) <;> (try (have hg' := hg; simp at hg'))) | (refine OutOK.gateN (fun hg => ?_) (fun hg => ?_) <;> (try (have hg' := hg; simp at hg'))) | (refine IfG.g (fun hg => ?_) (fun hg => ?_) <;> (try (have hg' := hg; simp at hg'))) | (refine OutOK.gate (fun hg => ?_) (fun hg => ?_) <;> (try (have hg' := hg; simp at hg'))) | (refine OutOK.callF [] (by simp [*]; rfl) (by simp [*]; rfl) (by simp [*]; rfl) hb40 (by apply c1 <;> first | assumption | exact Hd.out (by assumption) | ((try (clear e0)); (try (clear e1)); (try (clear e2)); (try (clear e3)); (try (clear e4)); (try (clear e5)); (try (clear e6)); (try (clear e7)); (try (clear e8)); (try (clear e9)); (try (clear e10)); (try (clear e11)); omega)) ⟨by simp [*], by simp [*], by simp [*], by simp [*], by simp [*]⟩ (by simp [*]) (by simp [*]; rfl) ?_) | (refine OutOK.callF [] (by simp [*]; rfl) (by simp [*]; rfl) (by simp [*]; rfl) hb40 (by apply c2 <;> first | assumption | exact Hd.out (by assumption) | ((try (clear e0)); (try (clear e1)); (try (clear e2)); (try (clear e3)); (try (clear e4)); (try (clear e5)); (try (clear e6)); (try (clear e7)); (try (clear e8)); (try (clear e9)); (try (clear e10)); (try (clear e11)); omega)) ⟨by simp [*], by simp [*], by simp [*], by simp [*], by simp [*]⟩ (by simp [*]) (by simp [*]; rfl) ?_) | refine OutOK.run (by simp [*]; rfl) ?_ | refine AW.ret ?_ | refine AW.skip ?_ | refine AW.exit ?_ | refine fin_r ?_ | refine fin_n ?_ | refine AW.block ?_ | refine blockQ_n ?_ | refine blockQ_r ?_ | refine blockQ_e ?_ | refine blockQ_o rfl ?_)
  exact .inl ⟨rfl, hb.out, by simp [Try.f26]⟩
theorem w_ih3c (l : List Edt) (n : Int) (i k : Nat) (h : i < l.length) (hk : k < l.length) (hl : l.length ≤ 24) (hli : l[i].ck.length ≤ 3) (hlk : l[k].ck.length = l[i].ck.length) (p1 : precE l[k] l[i] = true) (p2 : precE l[i] l[k] = false) (p3 : noGr l[k].ck l[i].ck = false) : AW Try.prog 152 (cAt Try.f26 [2, 2, 2, 2, 2, 1, 2, 5, 7, 2, 2, 1, 5, 2, 2, 5, 7]) (mk [(0, .c (.sl true 5 (edts true l))), (1, .c (.sc (.int .i64 n))), (13, .pt 13000 []  0), (123, .c (.sl true 5 (edts true l))), (124, .c (.sc (.int .i64 (l.length : Int)))), (125, .c (.sc (.int .i64 (i : Int)))), (129, .c (.sl true 5 (edts true l))), (130, .c (.sc (.int .i64 (l.length : Int)))), (131, .c (.sc (.int .i64 (k : Int))))] [(13000, .bx (edtC true l[i]))]) (Ih3Q l n i k h hk) := by
  have e1 : wrap64 ((k : Int) + 1) = ((k + 1 : Nat) : Int) := by rw [w64 (by omega) (by omega)]; omega
  have c1 := c_impl_Precedes l[k] l[i] (by omega)
  rw [p1] at c1
  have c2 := c_impl_Precedes l[i] l[k] (by omega)
  rw [p2] at c2
  have c3 := c_impl_noGreater l[k].ck l[i].ck (by omega) (by omega)
  rw [p3] at c3
  have hb : Hd (¬ (precE l[k] l[i] = true → precE l[i] l[k] = false ∧ noGr l[k].ck l[i].ck = true)) := fun hh => by have := (hh p1).2; rw [p3] at this; cases this
  clear p1 p2 p3 hlk hli
  repeat' (first | with_reducible refine OutOK.done ?_ | refine thenQ_n ?_ | refine thenQ_r ?_ | refine thenQ_e ?_ | refine AW.seq ?_ | refine AW.dreg tok mixed [15, 25, 26, 27, 28]  [(0, false), (2, false), (3, false), (1, false), (4, false), (5, false), (6, false), (7, false), (8, false), (9, false), (10, false), (11, false), (12, false), (13, false), (14, false), (15, true), (16, false), (17, false), (18, false), (19, false), (20, false), (21, false), (23, false), (24, false), (22, false), (25, true), (26, true), (27, true), (28, true), (29, false), (30, false)] (by decide +kernel) rfl (by simp [*]; rfl) ?_ | refine AW.dreg tok mixed [9, 13]  [(0, false), (3, false), (1, false), (2, false), (4, false), (5, false), (6, false), (8, false), (12, false), (7, false), (9, true), (10, false), (11, false), (13, true), (14, false), (15, false), (16, false), (17, false), (18, false), (19, false), (20, false), (21, false), (22, false), (23, false), (24, false), (25, false), (26, false), (27, false)] (by decide +kernel) rfl (by simp [*]; rfl) ?_ | refine AW.reg tok (by simp [*]; rfl) ?_ | refine AW.ifB (by simp [*]; rfl) ?_ | refine IfG.t ?_ | refine IfG.f ?_ | (refine IfG.p (fun hg => ?_) (fun hg => ?_) <;> (try (have hg' := hg; simp at hg'))) | (refine IfG.n (fun hg => ?_) (fun hg => ?_) <;> (try (have hg' := hg; simp at hg'))) | (refine OutOK.gateP (fun hg => ?_) (fun hg => ?_) <;> (try (have hg' := hg; simp at hg'))) | (refine OutOK.gateN (fun hg => ?_) (fun hg => ?_) <;> (try (have hg' := hg; simp at hg'))) | (refine IfG.g (fun hg => ?_) (fun hg => ?_) <;> (try (have hg' := hg; simp at hg'))) | (refine OutOK.gate (fun hg => ?_) (fun hg => ?_) <;> (try (have hg' := hg; simp at hg'))) | (refine OutOK.callF [] (by simp [*]; rfl) (by simp [*]; rfl) (by simp [*]; rfl) hb40 (by apply c1 <;> first | assumption | exact Hd.out (by assumption) | ((try (clear e0)); (try (clear e1)); (try (clear e2)); (try (clear e3)); (try (clear e4)); (try (clear e5)); (try (clear e6)); (try (clear e7)); (try (clear e8)); (try (clear e9)); (try (clear e10)); (try (clear e11)); omega)) ⟨by simp [*], by simp [*], by simp [*], by simp [*], by simp [*]⟩ (by simp [*]) (by simp [*]; rfl) ?_) | (refine OutOK.callF [] (by simp [*]; rfl) (by simp [*]; rfl) (by simp [*]; rfl) hb40 (by apply c2 <;> first | assumption | exact Hd.out (by assumption) | ((try (clear e0)); (try (clear e1)); (try (clear e2)); (try (clear e3)); (try (clear e4)); (try (clear e5)); (try (clear e6)); (try (clear e7)); (try (clear e8)); (try (clear e9)); (try (clear e10)); (try (clear e11)); omega)) ⟨by simp [*], by simp [*], by simp [*], by simp [*], by simp [*]⟩ (by simp [*]) (by simp [*]; rfl) ?_) | (refine OutOK.callF [] (by simp [*]; rfl) (by simp [*]; rfl) (by simp [*]; rfl) hb79 (by apply c3 <;> first | assumption | exact Hd.out (by assumption) | ((try (clear e0)); (try (clear e1)); (try (clear e2)); (try (clear e3)); (try (clear e4)); (try (clear e5)); (try (clear e6)); (try (clear e7)); (try (clear e8)); (try (clear e9)); (try (clear e10)); (try (clear e11)); omega)) ⟨by simp [*], by simp [*], by simp [*], by simp [*], by simp [*]⟩ (by simp [*]) (by simp [*]; rfl) ?_) | refine OutOK.run (by simp [*]; rfl) ?_ | refine AW.ret ?_ | refine AW.skip ?_ | refine AW.exit ?_ | refine fin_r ?_ | refine fin_n ?_ | refine AW.block ?_ | refine blockQ_n ?_ | refine blockQ_r ?_ | refine blockQ_e ?_ | refine blockQ_o rfl ?_)
  exact .inl ⟨rfl, hb.out, by simp [Try.f26]⟩
theorem w_ih3d (l : List Edt) (n : Int) (i k : Nat) (h : i < l.length) (hk : k < l.length) (hl : l.length ≤ 24) (hli : l[i].ck.length ≤ 3) (hlk : l[k].ck.length = l[i].ck.length) (p1 : precE l[k] l[i] = true) (p2 : precE l[i] l[k] = false) (p3 : noGr l[k].ck l[i].ck = true) : AW Try.prog 152 (cAt Try.f26 [2, 2, 2, 2, 2, 1, 2, 5, 7, 2, 2, 1, 5, 2, 2, 5, 7]) (mk [(0, .c (.sl true 5 (edts true l))), (1, .c (.sc (.int .i64 n))), (13, .pt 13000 []  0), (123, .c (.sl true 5 (edts true l))), (124, .c (.sc (.int .i64 (l.length : Int)))), (125, .c (.sc (.int .i64 (i : Int)))), (129, .c (.sl true 5 (edts true l))), (130, .c (.sc (.int .i64 (l.length : Int)))), (131, .c (.sc (.int .i64 (k : Int))))] [(13000, .bx (edtC true l[i]))]) (Ih3Q l n i k h hk) := by
  have e1 : wrap64 ((k : Int) + 1) = ((k + 1 : Nat) : Int) := by rw [w64 (by omega) (by omega)]; omega
  have c1 := c_impl_Precedes l[k] l[i] (by omega)
  rw [p1] at c1
  have c2 := c_impl_Precedes l[i] l[k] (by omega)
  rw [p2] at c2
  have c3 := c_impl_noGreater l[k].ck l[i].ck (by omega) (by omega)
  rw [p3] at c3
  have hb : Hd ((precE l[k] l[i] = true → precE l[i] l[k] = false ∧ noGr l[k].ck l[i].ck = true)) := fun _ => ⟨p2, p3⟩
  clear p1 p2 p3 hlk hli
  repeat' (first | with_reducible refine OutOK.done ?_ | refine thenQ_n ?_ | refine thenQ_r ?_ | refine thenQ_e ?_ | refine AW.seq ?_ | refine AW.dreg tok mixed [15, 25, 26, 27, 28]  [(0, false), (2, false), (3, false), (1, false), (4, false), (5, false), (6, false), (7, false), (8, false), (9, false), (10, false), (11, false), (12, false), (13, false), (14, false), (15, true), (16, false), (17, false), (18, false), (19, false), (20, false), (21, false), (23, false), (24, false), (22, false), (25, true), (26, true), (27, true), (28, true), (29, false), (30, false)] (by decide +kernel) rfl (by simp [*]; rfl) ?_ | refine AW.dreg tok mixed [9, 13]  [(0, false), (3, false), (1, false), (2, false), (4, false), (5, false), (6, false), (8, false), (12, false), (7, false), (9, true), (10, false), (11, false), (13, true), (14, false), (15, false), (16, false), (17, false), (18, false), (19, false), (20, false), (21, false), (22, false), (23, false), (24, false), (25, false), (26, false), (27, false)] (by decide +kernel) rfl (by simp [*]; rfl) ?_ | refine AW.reg tok (by simp [*]; rfl) ?_ | refine AW.ifB (by simp [*]; rfl) ?_ | refine IfG.t ?_ | refine IfG.f ?_ | (refine IfG.p (fun hg => ?_) (fun hg => ?_) <;> (try (have hg' := hg; simp at hg'))) | (refine IfG.n (fun hg => ?_) (fun hg => ?_) <;> (try (have hg' := hg; simp at hg'))) | (refine OutOK.gateP (fun hg => ?_) (fun hg => ?_) <;> (try (have hg' := hg; simp at hg'))) | (refine OutOK.gateN (fun hg => ?_) (fun hg => ?_) <;> (try (have hg' := hg; simp at hg'))) | (refine IfG.g (fun hg => ?_) (fun hg => ?_) <;> (try (have hg' := hg; simp at hg'))) | (refine OutOK.gate (fun hg => ?_) (fun hg => ?_) <;> (try (have hg' := hg; simp at hg'))) | (refine OutOK.callF [] (by simp [*]; rfl) (by simp [*]; rfl) (by simp [*]; rfl) hb40 (by apply c1 <;> first | assumption | exact Hd.out (by assumption) | ((try (clear e0)); (try (clear e1)); (try (clear e2)); (try (clear e3)); (try (clear e4)); (try (clear e5)); (try (clear e6)); (try (clear e7)); (try (clear e8)); (try (clear e9)); (try (clear e10)); (try (clear e11)); omega)) ⟨by simp [*], by simp [*], by simp [*], by simp [*], by simp [*]⟩ (by simp [*]) (by simp [*]; rfl) ?_) | (refine OutOK.callF [] (by simp [*]; rfl) (by simp [*]; rfl) (by simp [*]; rfl) hb40 (by apply c2 <;> first | assumption | exact Hd.out (by assumption) | ((try (clear e0)); (try (clear e1)); (try (clear e2)); (try (clear e3)); (try (clear e4)); (try (clear e5)); (try (clear e6)); (try (clear e7)); (try (clear e8)); (try (clear e9)); (try (clear e10)); (try (clear e11)); omega)) ⟨by simp [*], by simp [*], by simp [*], by simp [*], by simp [*]⟩ (by simp [*]) (by simp [*]; rfl) ?_) | (refine OutOK.callF [] (by simp [*]; rfl) (by simp [*]; rfl) (by simp [*]; rfl) hb79 (by apply c3 <;> first | assumption | exact Hd.out (by assumption) | ((try (clear e0)); (try (clear e1)); (try (clear e2)); (try (clear e3)); (try (clear e4)); (try (clear e5)); (try (clear e6)); (try (clear e7)); (try (clear e8)); (try (clear e9)); (try (clear e10)); (try (clear e11)); omega)) ⟨by simp [*], by simp [*], by simp [*], by simp [*], by simp [*]⟩ (by simp [*]) (by simp [*]; rfl) ?_) | refine OutOK.run (by simp [*]; rfl) ?_ | refine AW.ret ?_ | refine AW.skip ?_ | refine AW.exit ?_ | refine fin_r ?_ | refine fin_n ?_ | refine AW.block ?_ | refine blockQ_n ?_ | refine blockQ_r ?_ | refine blockQ_e ?_ | refine blockQ_o rfl ?_)
  exact .inr ⟨rfl, hb.out, by simp, by simp, by simp⟩
theorem w_ih3 (l : List Edt) (n : Int) (i k : Nat) (h : i < l.length) (hk : k < l.length) (hl : l.length ≤ 24) (hli : l[i].ck.length ≤ 3) (hlk : l[k].ck.length = l[i].ck.length) : AW Try.prog 152 (cAt Try.f26 [2, 2, 2, 2, 2, 1, 2, 5, 7, 2, 2, 1, 5, 2, 2, 5, 7]) (mk [(0, .c (.sl true 5 (edts true l))), (1, .c (.sc (.int .i64 n))), (13, .pt 13000 []  0), (123, .c (.sl true 5 (edts true l))), (124, .c (.sc (.int .i64 (l.length : Int)))), (125, .c (.sc (.int .i64 (i : Int)))), (129, .c (.sl true 5 (edts true l))), (130, .c (.sc (.int .i64 (l.length : Int)))), (131, .c (.sc (.int .i64 (k : Int))))] [(13000, .bx (edtC true l[i]))]) (Ih3Q l n i k h hk) := by
  cases p1 : precE l[k] l[i] with
  | false => exact w_ih3a l n i k h hk hl hli hlk p1
  | true =>
    cases p2 : precE l[i] l[k] with
    | true => exact w_ih3b l n i k h hk hl hli hlk p1 p2
    | false =>
      cases p3 : noGr l[k].ck l[i].ck with
      | false => exact w_ih3c l n i k h hk hl hli hlk p1 p2 p3
      | true => exact w_ih3d l n i k h hk hl hli hlk p1 p2 p3
theorem c_impl_IsValidHistory (l : List Edt) (n : Int) (h : l.length ≤ 4611686018427387904) (hW : ∀ e ∈ l, EdtW e) : ACall Try.prog 26 [.v (.sl true 5 (edts true l)), int n] [.x, .x] [boo (hist l n)] := by
  have hW' : Hd _ := hW
  clear hW
  cases hR : inR 1 3 n with
  | false =>
    have hb : hist l n = false := hist_no (fun hh => by have := hh.nn; rw [hR] at this; cases this)
    rw [hb]
    clear hb
    refine ACall.of (N := 152) tok Try.func26 rfl rfl rfl (by simp) ?_
    repeat' (first | with_reducible refine OutOK.done ?_ | refine thenQ_n ?_ | refine thenQ_r ?_ | refine thenQ_e ?_ | refine AW.seq ?_ | refine AW.dreg tok mixed [15, 25, 26, 27, 28]  [(0, false), (2, false), (3, false), (1, false), (4, false), (5, false), (6, false), (7, false), (8, false), (9, false), (10, false), (11, false), (12, false), (13, false), (14, false), (15, true), (16, false), (17, false), (18, false), (19, false), (20, false), (21, false), (23, false), (24, false), (22, false), (25, true), (26, true), (27, true), (28, true), (29, false), (30, false)] (by decide +kernel) rfl (by simp [*]; rfl) ?_ | refine AW.dreg tok mixed [9, 13]  [(0, false), (3, false), (1, false), (2, false), (4, false), (5, false), (6, false), (8, false), (12, false), (7, false), (9, true), (10, false), (11, false), (13, true), (14, false), (15, false), (16, false), (17, false), (18, false), (19, false), (20, false), (21, false), (22, false), (23, false), (24, false), (25, false), (26, false), (27, false)] (by decide +kernel) rfl (by simp [*]; rfl) ?_ | refine AW.reg tok (by simp [*]; rfl) ?_ | refine AW.ifB (by simp [*]; rfl) ?_ | refine IfG.t ?_ | refine IfG.f ?_ | (refine IfG.p (fun hg => ?_) (fun hg => ?_) <;> (try (have hg' := hg; simp at hg'))) | (refine IfG.n (fun hg => ?_) (fun hg => ?_) <;> (try (have hg' := hg; simp at hg'))) | (refine OutOK.gateP (fun hg => ?_) (fun hg => ?_) <;> (try (have hg' := hg; simp at hg'))) | (refine OutOK.gateN (fun hg => ?_) (fun hg => ?_) <;> (try (have hg' := hg; simp at hg'))) | (refine IfG.g (fun hg => ?_) (fun hg => ?_) <;> (try (have hg' := hg; simp at hg'))) | (refine OutOK.gate (fun hg => ?_) (fun hg => ?_) <;> (try (have hg' := hg; simp at hg'))) | (refine OutOK.callF [] (by simp [*]; rfl) (by simp [*]; rfl) (by simp [*]; rfl) hb59 (by apply c_impl_within <;> first | assumption | exact Hd.out (by assumption) | ((try (clear e0)); (try (clear e1)); (try (clear e2)); (try (clear e3)); (try (clear e4)); (try (clear e5)); (try (clear e6)); (try (clear e7)); (try (clear e8)); (try (clear e9)); (try (clear e10)); (try (clear e11)); omega)) ⟨by simp [*], by simp [*], by simp [*], by simp [*], by simp [*]⟩ (by simp [*]) (by simp [*]; rfl) ?_) | refine OutOK.run (by simp [*]; rfl) ?_ | refine AW.ret ?_ | refine AW.skip ?_ | refine AW.exit ?_ | refine fin_r ?_ | refine fin_n ?_ | refine AW.block ?_ | refine blockQ_n ?_ | refine blockQ_r ?_ | refine blockQ_e ?_ | refine blockQ_o rfl ?_)
    simp [Try.f26]
  | true =>
  rcases Nat.lt_or_ge 24 l.length with h24 | h24
  · have hb : hist l n = false := hist_no (fun hh => by have := hh.len; omega)
    rw [hb]
    have h24' : (24 : Int) < l.length := by omega
    clear hb
    refine ACall.of (N := 152) tok Try.func26 rfl rfl rfl (by simp) ?_
    repeat' (first | with_reducible refine OutOK.done ?_ | refine thenQ_n ?_ | refine thenQ_r ?_ | refine thenQ_e ?_ | refine AW.seq ?_ | refine AW.dreg tok mixed [15, 25, 26, 27, 28]  [(0, false), (2, false), (3, false), (1, false), (4, false), (5, false), (6, false), (7, false), (8, false), (9, false), (10, false), (11, false), (12, false), (13, false), (14, false), (15, true), (16, false), (17, false), (18, false), (19, false), (20, false), (21, false), (23, false), (24, false), (22, false), (25, true), (26, true), (27, true), (28, true), (29, false), (30, false)] (by decide +kernel) rfl (by simp [*]; rfl) ?_ | refine AW.dreg tok mixed [9, 13]  [(0, false), (3, false), (1, false), (2, false), (4, false), (5, false), (6, false), (8, false), (12, false), (7, false), (9, true), (10, false), (11, false), (13, true), (14, false), (15, false), (16, false), (17, false), (18, false), (19, false), (20, false), (21, false), (22, false), (23, false), (24, false), (25, false), (26, false), (27, false)] (by decide +kernel) rfl (by simp [*]; rfl) ?_ | refine AW.reg tok (by simp [*]; rfl) ?_ | refine AW.ifB (by simp [*]; rfl) ?_ | refine IfG.t ?_ | refine IfG.f ?_ | (refine IfG.p (fun hg => ?_) (fun hg => ?_) <;> (try (have hg' := hg; simp at hg'))) | (refine IfG.n (fun hg => ?_) (fun hg => ?_) <;> (try (have hg' := hg; simp at hg'))) | (refine OutOK.gateP (fun hg => ?_) (fun hg => ?_) <;> (try (have hg' := hg; simp at hg'))) | (refine OutOK.gateN (fun hg => ?_) (fun hg => ?_) <;> (try (have hg' := hg; simp at hg'))) | (refine IfG.g (fun hg => ?_) (fun hg => ?_) <;> (try (have hg' := hg; simp at hg'))) | (refine OutOK.gate (fun hg => ?_) (fun hg => ?_) <;> (try (have hg' := hg; simp at hg'))) | (refine OutOK.callF [] (by simp [*]; rfl) (by simp [*]; rfl) (by simp [*]; rfl) hb59 (by apply c_impl_within <;> first | assumption | exact Hd.out (by assumption) | ((try (clear e0)); (try (clear e1)); (try (clear e2)); (try (clear e3)); (try (clear e4)); (try (clear e5)); (try (clear e6)); (try (clear e7)); (try (clear e8)); (try (clear e9)); (try (clear e10)); (try (clear e11)); omega)) ⟨by simp [*], by simp [*], by simp [*], by simp [*], by simp [*]⟩ (by simp [*]) (by simp [*]; rfl) ?_) | refine OutOK.run (by simp [*]; rfl) ?_ | refine AW.ret ?_ | refine AW.skip ?_ | refine AW.exit ?_ | refine fin_r ?_ | refine fin_n ?_ | refine AW.block ?_ | refine blockQ_n ?_ | refine blockQ_r ?_ | refine blockQ_e ?_ | refine blockQ_o rfl ?_)
    simp [Try.f26]
  have h24' : ¬ (24 : Int) < l.length := by omega
  obtain ⟨n1, n3⟩ := inR_iff.1 hR
  have no : Hd (¬ Hist l n → hist l n = false) := fun hh => hist_no hh
  have yes : Hd (Hist l n → hist l n = true) := fun hh => hist_iff'.2 hh
  generalize hist l n = B at *
  have b1 : n * 8 ≤ 140737488355328 := by omega
  have b2 : n ≤ 4611686018427387904 := by omega
  have hn0 : 0 ≤ n := by omega
  have hz : Hd (cts l n 0 = List.replicate n.toNat 0) := cts_zero l n
  refine ACall.of (N := 152) tok Try.func26 rfl rfl rfl (by simp) ?_
  repeat' (first | with_reducible refine OutOK.done ?_ | refine thenQ_n ?_ | refine thenQ_r ?_ | refine thenQ_e ?_ | refine AW.seq ?_ | refine AW.dreg tok mixed [15, 25, 26, 27, 28]  [(0, false), (2, false), (3, false), (1, false), (4, false), (5, false), (6, false), (7, false), (8, false), (9, false), (10, false), (11, false), (12, false), (13, false), (14, false), (15, true), (16, false), (17, false), (18, false), (19, false), (20, false), (21, false), (23, false), (24, false), (22, false), (25, true), (26, true), (27, true), (28, true), (29, false), (30, false)] (by decide +kernel) rfl (by simp [*]; rfl) ?_ | refine AW.dreg tok mixed [9, 13]  [(0, false), (3, false), (1, false), (2, false), (4, false), (5, false), (6, false), (8, false), (12, false), (7, false), (9, true), (10, false), (11, false), (13, true), (14, false), (15, false), (16, false), (17, false), (18, false), (19, false), (20, false), (21, false), (22, false), (23, false), (24, false), (25, false), (26, false), (27, false)] (by decide +kernel) rfl (by simp [*]; rfl) ?_ | refine AW.reg tok (by simp [*]; rfl) ?_ | refine AW.ifB (by simp [*]; rfl) ?_ | refine IfG.t ?_ | refine IfG.f ?_ | (refine IfG.p (fun hg => ?_) (fun hg => ?_) <;> (try (have hg' := hg; simp at hg'))) | (refine IfG.n (fun hg => ?_) (fun hg => ?_) <;> (try (have hg' := hg; simp at hg'))) | (refine OutOK.gateP (fun hg => ?_) (fun hg => ?_) <;> (try (have hg' := hg; simp at hg'))) | (refine OutOK.gateN (fun hg => ?_) (fun hg => ?_) <;> (try (have hg' := hg; simp at hg'))) | (refine IfG.g (fun hg => ?_) (fun hg => ?_) <;> (try (have hg' := hg; simp at hg'))) | (refine OutOK.gate (fun hg => ?_) (fun hg => ?_) <;> (try (have hg' := hg; simp at hg'))) | (refine OutOK.callF [] (by simp [*]; rfl) (by simp [*]; rfl) (by simp [*]; rfl) hb59 (by apply c_impl_within <;> first | assumption | exact Hd.out (by assumption) | ((try (clear e0)); (try (clear e1)); (try (clear e2)); (try (clear e3)); (try (clear e4)); (try (clear e5)); (try (clear e6)); (try (clear e7)); (try (clear e8)); (try (clear e9)); (try (clear e10)); (try (clear e11)); omega)) ⟨by simp [*], by simp [*], by simp [*], by simp [*], by simp [*]⟩ (by simp [*]) (by simp [*]; rfl) ?_) | refine OutOK.run (by simp [*]; rfl) ?_ | refine AW.ret ?_ | refine AW.skip ?_ | refine AW.exit ?_ | refine fin_r ?_ | refine fin_n ?_ | refine AW.block ?_ | refine blockQ_n ?_ | refine blockQ_r ?_ | refine blockQ_e ?_ | refine blockQ_o rfl ?_)
  refine AW.loopL (α := Nat) (fun i => i ≤ l.length ∧ Hd (∀ j (hj : j < l.length), j < i → St1 l n j hj ∧ Fl l[j] n)) (fun i => [(0, .c (.sl true 5 (edts true l))), (1, .c (.sc (.int .i64 n))), (5, .rf 25000 []), (26, .c (.sl true 5 (edts true l))), (27, .c (.sc (.int .i64 (l.length : Int)))), (28, .c (.sc (.int .i64 (i : Int))))]) (fun i => [(25000, .sv (.sl false 1 (ints (cts l n i))))]) (fun i => l.length - i) 0 ⟨Nat.zero_le _, fun j _ hj => by omega⟩ ⟨by simp, by simp [hz.out], by simp⟩ ?_
  rintro i ⟨hi, hs⟩
  rcases Nat.lt_or_ge i l.length with hil | hil
  · refine (w_ih1 l n i hil h24 n1 n3 (hW'.out _ (List.getElem_mem hil))).mono fun e st hq => ?_
    rcases hq with ⟨rfl, hk, hq⟩ | ⟨rfl, hk, hq⟩
    · have hb := no.out (fun hh => hk ⟨hh.st i hil, hh.fl i hil⟩)
      subst hb
      exact ⟨.inr rfl, hq⟩
    · refine ⟨i + 1, ⟨hil, fun j hj hji => ?_⟩, hq, by omega⟩
      rcases Nat.lt_succ_iff_lt_or_eq.1 hji with h2 | rfl
      · exact hs.out j hj h2
      · exact hk
  have hii : i = l.length := by omega
  subst hii
  clear hz
  repeat' (first | with_reducible refine AW.stopB 2 ?_ | with_reducible refine OutOK.done ?_ | refine thenQ_n ?_ | refine thenQ_r ?_ | refine thenQ_e ?_ | refine AW.seq ?_ | refine AW.dreg tok mixed [15, 25, 26, 27, 28]  [(0, false), (2, false), (3, false), (1, false), (4, false), (5, false), (6, false), (7, false), (8, false), (9, false), (10, false), (11, false), (12, false), (13, false), (14, false), (15, true), (16, false), (17, false), (18, false), (19, false), (20, false), (21, false), (23, false), (24, false), (22, false), (25, true), (26, true), (27, true), (28, true), (29, false), (30, false)] (by decide +kernel) rfl (by simp [*]; rfl) ?_ | refine AW.dreg tok mixed [9, 13]  [(0, false), (3, false), (1, false), (2, false), (4, false), (5, false), (6, false), (8, false), (12, false), (7, false), (9, true), (10, false), (11, false), (13, true), (14, false), (15, false), (16, false), (17, false), (18, false), (19, false), (20, false), (21, false), (22, false), (23, false), (24, false), (25, false), (26, false), (27, false)] (by decide +kernel) rfl (by simp [*]; rfl) ?_ | refine AW.reg tok (by simp [*]; rfl) ?_ | refine AW.ifB (by simp [*]; rfl) ?_ | refine IfG.t ?_ | refine IfG.f ?_ | (refine IfG.p (fun hg => ?_) (fun hg => ?_) <;> (try (have hg' := hg; simp at hg'))) | (refine IfG.n (fun hg => ?_) (fun hg => ?_) <;> (try (have hg' := hg; simp at hg'))) | (refine OutOK.gateP (fun hg => ?_) (fun hg => ?_) <;> (try (have hg' := hg; simp at hg'))) | (refine OutOK.gateN (fun hg => ?_) (fun hg => ?_) <;> (try (have hg' := hg; simp at hg'))) | (refine IfG.g (fun hg => ?_) (fun hg => ?_) <;> (try (have hg' := hg; simp at hg'))) | (refine OutOK.gate (fun hg => ?_) (fun hg => ?_) <;> (try (have hg' := hg; simp at hg'))) | refine OutOK.run (by simp [*]; rfl) ?_ | refine AW.ret ?_ | refine AW.skip ?_ | refine AW.exit ?_ | refine fin_r ?_ | refine fin_n ?_ | refine AW.block ?_ | refine blockQ_n ?_ | refine blockQ_r ?_ | refine blockQ_e ?_ | refine blockQ_o rfl ?_)
  refine ⟨AW.forget [(0, .c (.sl true 5 (edts true l))), (1, .c (.sc (.int .i64 n))), (5, .rf 25000 []), (100, .c (.sl true 5 (edts true l))), (101, .c (.sc (.int .i64 (l.length : Int)))), (102, .c (.sc (.int .i64 0)))] [(25000, .sv (.sl false 1 (ints (cts l n l.length))))] ⟨by simp, by simp, by simp⟩ ?_⟩
  have hlen : ∀ a (ha : a < l.length), (l[a].ck.length : Int) = n := fun a ha => (hs.out a ha ha).2.1
  repeat' (first | with_reducible refine OutOK.done ?_ | refine thenQ_n ?_ | refine thenQ_r ?_ | refine thenQ_e ?_ | refine AW.seq ?_ | refine AW.dreg tok mixed [15, 25, 26, 27, 28]  [(0, false), (2, false), (3, false), (1, false), (4, false), (5, false), (6, false), (7, false), (8, false), (9, false), (10, false), (11, false), (12, false), (13, false), (14, false), (15, true), (16, false), (17, false), (18, false), (19, false), (20, false), (21, false), (23, false), (24, false), (22, false), (25, true), (26, true), (27, true), (28, true), (29, false), (30, false)] (by decide +kernel) rfl (by simp [*]; rfl) ?_ | refine AW.dreg tok mixed [9, 13]  [(0, false), (3, false), (1, false), (2, false), (4, false), (5, false), (6, false), (8, false), (12, false), (7, false), (9, true), (10, false), (11, false), (13, true), (14, false), (15, false), (16, false), (17, false), (18, false), (19, false), (20, false), (21, false), (22, false), (23, false), (24, false), (25, false), (26, false), (27, false)] (by decide +kernel) rfl (by simp [*]; rfl) ?_ | refine AW.reg tok (by simp [*]; rfl) ?_ | refine AW.ifB (by simp [*]; rfl) ?_ | refine IfG.t ?_ | refine IfG.f ?_ | (refine IfG.p (fun hg => ?_) (fun hg => ?_) <;> (try (have hg' := hg; simp at hg'))) | (refine IfG.n (fun hg => ?_) (fun hg => ?_) <;> (try (have hg' := hg; simp at hg'))) | (refine OutOK.gateP (fun hg => ?_) (fun hg => ?_) <;> (try (have hg' := hg; simp at hg'))) | (refine OutOK.gateN (fun hg => ?_) (fun hg => ?_) <;> (try (have hg' := hg; simp at hg'))) | (refine IfG.g (fun hg => ?_) (fun hg => ?_) <;> (try (have hg' := hg; simp at hg'))) | (refine OutOK.gate (fun hg => ?_) (fun hg => ?_) <;> (try (have hg' := hg; simp at hg'))) | refine OutOK.run (by simp [*]; rfl) ?_ | refine AW.ret ?_ | refine AW.skip ?_ | refine AW.exit ?_ | refine fin_r ?_ | refine fin_n ?_ | refine AW.block ?_ | refine blockQ_n ?_ | refine blockQ_r ?_ | refine blockQ_e ?_ | refine blockQ_o rfl ?_)
  refine AW.loopL (α := Nat) (fun i => i ≤ l.length ∧ Hd (∀ j (hj : j < l.length), j < i → ∀ t < l[j].ck.length, inR 0 (cntE l (t : Int)) (ckAt l[j].ck (t : Int)) = true)) (fun i => [(0, .c (.sl true 5 (edts true l))), (1, .c (.sc (.int .i64 n))), (5, .rf 25000 []), (100, .c (.sl true 5 (edts true l))), (101, .c (.sc (.int .i64 (l.length : Int)))), (102, .c (.sc (.int .i64 (i : Int))))]) (fun i => [(25000, .sv (.sl false 1 (ints (cts l n l.length))))]) (fun i => l.length - i) 0 ⟨Nat.zero_le _, fun j _ hj => by omega⟩ ⟨by simp, by simp, by simp⟩ ?_
  rintro i ⟨hi, hs2⟩
  rcases Nat.lt_or_ge i l.length with hil | hil
  · refine (w_ih2 l n i hil h24 n1 n3 (hlen i hil)).mono fun e st hq => ?_
    rcases hq with ⟨rfl, hk, hq⟩ | ⟨rfl, hk, hq⟩
    · have hb := no.out (fun hh => hk (hh.ck i hil))
      subst hb
      exact ⟨.inr rfl, hq⟩
    · refine ⟨i + 1, ⟨hil, fun j hj hji => ?_⟩, hq, by omega⟩
      rcases Nat.lt_succ_iff_lt_or_eq.1 hji with h2 | rfl
      · exact hs2.out j hj h2
      · exact hk
  have hii : i = l.length := by omega
  subst hii
  have hlen' : Hd _ := hlen
  clear hlen
  repeat' (first | with_reducible refine OutOK.done ?_ | refine thenQ_n ?_ | refine thenQ_r ?_ | refine thenQ_e ?_ | refine AW.seq ?_ | refine AW.dreg tok mixed [15, 25, 26, 27, 28]  [(0, false), (2, false), (3, false), (1, false), (4, false), (5, false), (6, false), (7, false), (8, false), (9, false), (10, false), (11, false), (12, false), (13, false), (14, false), (15, true), (16, false), (17, false), (18, false), (19, false), (20, false), (21, false), (23, false), (24, false), (22, false), (25, true), (26, true), (27, true), (28, true), (29, false), (30, false)] (by decide +kernel) rfl (by simp [*]; rfl) ?_ | refine AW.dreg tok mixed [9, 13]  [(0, false), (3, false), (1, false), (2, false), (4, false), (5, false), (6, false), (8, false), (12, false), (7, false), (9, true), (10, false), (11, false), (13, true), (14, false), (15, false), (16, false), (17, false), (18, false), (19, false), (20, false), (21, false), (22, false), (23, false), (24, false), (25, false), (26, false), (27, false)] (by decide +kernel) rfl (by simp [*]; rfl) ?_ | refine AW.reg tok (by simp [*]; rfl) ?_ | refine AW.ifB (by simp [*]; rfl) ?_ | refine IfG.t ?_ | refine IfG.f ?_ | (refine IfG.p (fun hg => ?_) (fun hg => ?_) <;> (try (have hg' := hg; simp at hg'))) | (refine IfG.n (fun hg => ?_) (fun hg => ?_) <;> (try (have hg' := hg; simp at hg'))) | (refine OutOK.gateP (fun hg => ?_) (fun hg => ?_) <;> (try (have hg' := hg; simp at hg'))) | (refine OutOK.gateN (fun hg => ?_) (fun hg => ?_) <;> (try (have hg' := hg; simp at hg'))) | (refine IfG.g (fun hg => ?_) (fun hg => ?_) <;> (try (have hg' := hg; simp at hg'))) | (refine OutOK.gate (fun hg => ?_) (fun hg => ?_) <;> (try (have hg' := hg; simp at hg'))) | refine OutOK.run (by simp [*]; rfl) ?_ | refine AW.ret ?_ | refine AW.skip ?_ | refine AW.exit ?_ | refine fin_r ?_ | refine fin_n ?_ | refine AW.block ?_ | refine blockQ_n ?_ | refine blockQ_r ?_ | refine blockQ_e ?_ | refine blockQ_o rfl ?_)
  refine AW.loopL (α := Nat) (fun i => i ≤ l.length ∧ Hd (∀ j (hj : j < l.length), j < i → ∀ k (hk : k < l.length), precE l[k] l[j] = true → precE l[j] l[k] = false ∧ noGr l[k].ck l[j].ck = true)) (fun i => [(0, .c (.sl true 5 (edts true l))), (1, .c (.sc (.int .i64 n))), (123, .c (.sl true 5 (edts true l))), (124, .c (.sc (.int .i64 (l.length : Int)))), (125, .c (.sc (.int .i64 (i : Int))))]) (fun i => []) (fun i => l.length - i) 0 ⟨Nat.zero_le _, fun j _ hj => by omega⟩ ⟨by simp, by simp, by simp⟩ ?_
  rintro i ⟨hi, hs3⟩
  rcases Nat.lt_or_ge i l.length with hil | hil
  · have e1 : wrap64 ((i : Int) + 1) = ((i + 1 : Nat) : Int) := by rw [w64 (by omega) (by omega)]; omega
    have hli : l[i].ck.length ≤ 3 := by have := hlen'.out i hil; omega
    repeat' (first | with_reducible refine OutOK.done ?_ | refine thenQ_n ?_ | refine thenQ_r ?_ | refine thenQ_e ?_ | refine AW.seq ?_ | refine AW.dreg tok mixed [15, 25, 26, 27, 28]  [(0, false), (2, false), (3, false), (1, false), (4, false), (5, false), (6, false), (7, false), (8, false), (9, false), (10, false), (11, false), (12, false), (13, false), (14, false), (15, true), (16, false), (17, false), (18, false), (19, false), (20, false), (21, false), (23, false), (24, false), (22, false), (25, true), (26, true), (27, true), (28, true), (29, false), (30, false)] (by decide +kernel) rfl (by simp [*]; rfl) ?_ | refine AW.dreg tok mixed [9, 13]  [(0, false), (3, false), (1, false), (2, false), (4, false), (5, false), (6, false), (8, false), (12, false), (7, false), (9, true), (10, false), (11, false), (13, true), (14, false), (15, false), (16, false), (17, false), (18, false), (19, false), (20, false), (21, false), (22, false), (23, false), (24, false), (25, false), (26, false), (27, false)] (by decide +kernel) rfl (by simp [*]; rfl) ?_ | refine AW.reg tok (by simp [*]; rfl) ?_ | refine AW.ifB (by simp [*]; rfl) ?_ | refine IfG.t ?_ | refine IfG.f ?_ | (refine IfG.p (fun hg => ?_) (fun hg => ?_) <;> (try (have hg' := hg; simp at hg'))) | (refine IfG.n (fun hg => ?_) (fun hg => ?_) <;> (try (have hg' := hg; simp at hg'))) | (refine OutOK.gateP (fun hg => ?_) (fun hg => ?_) <;> (try (have hg' := hg; simp at hg'))) | (refine OutOK.gateN (fun hg => ?_) (fun hg => ?_) <;> (try (have hg' := hg; simp at hg'))) | (refine IfG.g (fun hg => ?_) (fun hg => ?_) <;> (try (have hg' := hg; simp at hg'))) | (refine OutOK.gate (fun hg => ?_) (fun hg => ?_) <;> (try (have hg' := hg; simp at hg'))) | refine OutOK.run (by simp [*]; rfl) ?_ | refine AW.ret ?_ | refine AW.skip ?_ | refine AW.exit ?_ | refine fin_r ?_ | refine fin_n ?_ | refine AW.block ?_ | refine blockQ_n ?_ | refine blockQ_r ?_ | refine blockQ_e ?_ | refine blockQ_o rfl ?_)
    refine AW.loopL (α := Nat) (fun k => k ≤ l.length ∧ Hd (∀ j (hj : j < l.length), j < k → precE l[j] l[i] = true → precE l[i] l[j] = false ∧ noGr l[j].ck l[i].ck = true)) (fun k => [(0, .c (.sl true 5 (edts true l))), (1, .c (.sc (.int .i64 n))), (13, .pt 13000 []  0), (123, .c (.sl true 5 (edts true l))), (124, .c (.sc (.int .i64 (l.length : Int)))), (125, .c (.sc (.int .i64 (i : Int)))), (129, .c (.sl true 5 (edts true l))), (130, .c (.sc (.int .i64 (l.length : Int)))), (131, .c (.sc (.int .i64 (k : Int))))]) (fun _ => [(13000, .bx (edtC true l[i]))]) (fun k => l.length - k) 0 ⟨Nat.zero_le _, fun j _ hj => by omega⟩ ⟨by simp, by simp, by simp⟩ ?_
    rintro k ⟨hk, hsk⟩
    rcases Nat.lt_or_ge k l.length with hkl | hkl
    · refine (w_ih3 l n i k hil hkl h24 hli (by have := hlen'.out i hil; have := hlen'.out k hkl; omega)).mono fun e st hq => ?_
      rcases hq with ⟨rfl, hk2, hq⟩ | ⟨rfl, hk2, hq⟩
      · have hb := no.out (fun hh => hk2 (hh.pr i hil k hkl))
        subst hb
        exact ⟨.inr rfl, hq⟩
      · refine ⟨k + 1, ⟨hkl, fun j hj hji => ?_⟩, hq, by omega⟩
        rcases Nat.lt_succ_iff_lt_or_eq.1 hji with h2 | rfl
        · exact hsk.out j hj h2
        · exact hk2
    · have hkn : ¬ k < l.length := by omega
      have hs4 : Hd (∀ j (hj : j < l.length), j < i + 1 → ∀ k (hk : k < l.length), precE l[k] l[j] = true → precE l[j] l[k] = false ∧ noGr l[k].ck l[j].ck = true) := by
        intro j hj hji
        rcases Nat.lt_succ_iff_lt_or_eq.1 hji with h2 | rfl
        · exact hs3.out j hj h2
        · exact fun q hq => hsk.out q hq (by omega)
      clear no yes
      repeat' (first | with_reducible refine OutOK.done ?_ | refine thenQ_n ?_ | refine thenQ_r ?_ | refine thenQ_e ?_ | refine AW.seq ?_ | refine AW.dreg tok mixed [15, 25, 26, 27, 28]  [(0, false), (2, false), (3, false), (1, false), (4, false), (5, false), (6, false), (7, false), (8, false), (9, false), (10, false), (11, false), (12, false), (13, false), (14, false), (15, true), (16, false), (17, false), (18, false), (19, false), (20, false), (21, false), (23, false), (24, false), (22, false), (25, true), (26, true), (27, true), (28, true), (29, false), (30, false)] (by decide +kernel) rfl (by simp [*]; rfl) ?_ | refine AW.dreg tok mixed [9, 13]  [(0, false), (3, false), (1, false), (2, false), (4, false), (5, false), (6, false), (8, false), (12, false), (7, false), (9, true), (10, false), (11, false), (13, true), (14, false), (15, false), (16, false), (17, false), (18, false), (19, false), (20, false), (21, false), (22, false), (23, false), (24, false), (25, false), (26, false), (27, false)] (by decide +kernel) rfl (by simp [*]; rfl) ?_ | refine AW.reg tok (by simp [*]; rfl) ?_ | refine AW.ifB (by simp [*]; rfl) ?_ | refine IfG.t ?_ | refine IfG.f ?_ | (refine IfG.p (fun hg => ?_) (fun hg => ?_) <;> (try (have hg' := hg; simp at hg'))) | (refine IfG.n (fun hg => ?_) (fun hg => ?_) <;> (try (have hg' := hg; simp at hg'))) | (refine OutOK.gateP (fun hg => ?_) (fun hg => ?_) <;> (try (have hg' := hg; simp at hg'))) | (refine OutOK.gateN (fun hg => ?_) (fun hg => ?_) <;> (try (have hg' := hg; simp at hg'))) | (refine IfG.g (fun hg => ?_) (fun hg => ?_) <;> (try (have hg' := hg; simp at hg'))) | (refine OutOK.gate (fun hg => ?_) (fun hg => ?_) <;> (try (have hg' := hg; simp at hg'))) | refine OutOK.run (by simp [*]; rfl) ?_ | refine AW.ret ?_ | refine AW.skip ?_ | refine AW.exit ?_ | refine fin_r ?_ | refine fin_n ?_ | refine AW.block ?_ | refine blockQ_n ?_ | refine blockQ_r ?_ | refine blockQ_e ?_ | refine blockQ_o rfl ?_)
      exact ⟨i + 1, ⟨hil, hs4⟩, ⟨by simp, by simp, by simp⟩, by ((try (clear e0)); (try (clear e1)); (try (clear e2)); (try (clear e3)); (try (clear e4)); (try (clear e5)); (try (clear e6)); (try (clear e7)); (try (clear e8)); (try (clear e9)); (try (clear e10)); (try (clear e11)); omega)⟩
  · have hin : ¬ i < l.length := by omega
    have hb : B = true := yes.out ⟨hR, h24, fun j hj => (hs.out j hj hj).1, fun j hj => (hs.out j hj hj).2, fun j hj => hs2.out j hj hj, fun j hj => hs3.out j hj (by omega)⟩
    subst hb
    clear no yes
    repeat' (first | with_reducible refine OutOK.done ?_ | refine thenQ_n ?_ | refine thenQ_r ?_ | refine thenQ_e ?_ | refine AW.seq ?_ | refine AW.dreg tok mixed [15, 25, 26, 27, 28]  [(0, false), (2, false), (3, false), (1, false), (4, false), (5, false), (6, false), (7, false), (8, false), (9, false), (10, false), (11, false), (12, false), (13, false), (14, false), (15, true), (16, false), (17, false), (18, false), (19, false), (20, false), (21, false), (23, false), (24, false), (22, false), (25, true), (26, true), (27, true), (28, true), (29, false), (30, false)] (by decide +kernel) rfl (by simp [*]; rfl) ?_ | refine AW.dreg tok mixed [9, 13]  [(0, false), (3, false), (1, false), (2, false), (4, false), (5, false), (6, false), (8, false), (12, false), (7, false), (9, true), (10, false), (11, false), (13, true), (14, false), (15, false), (16, false), (17, false), (18, false), (19, false), (20, false), (21, false), (22, false), (23, false), (24, false), (25, false), (26, false), (27, false)] (by decide +kernel) rfl (by simp [*]; rfl) ?_ | refine AW.reg tok (by simp [*]; rfl) ?_ | refine AW.ifB (by simp [*]; rfl) ?_ | refine IfG.t ?_ | refine IfG.f ?_ | (refine IfG.p (fun hg => ?_) (fun hg => ?_) <;> (try (have hg' := hg; simp at hg'))) | (refine IfG.n (fun hg => ?_) (fun hg => ?_) <;> (try (have hg' := hg; simp at hg'))) | (refine OutOK.gateP (fun hg => ?_) (fun hg => ?_) <;> (try (have hg' := hg; simp at hg'))) | (refine OutOK.gateN (fun hg => ?_) (fun hg => ?_) <;> (try (have hg' := hg; simp at hg'))) | (refine IfG.g (fun hg => ?_) (fun hg => ?_) <;> (try (have hg' := hg; simp at hg'))) | (refine OutOK.gate (fun hg => ?_) (fun hg => ?_) <;> (try (have hg' := hg; simp at hg'))) | refine OutOK.run (by simp [*]; rfl) ?_ | refine AW.ret ?_ | refine AW.skip ?_ | refine AW.exit ?_ | refine fin_r ?_ | refine fin_n ?_ | refine AW.block ?_ | refine blockQ_n ?_ | refine blockQ_r ?_ | refine blockQ_e ?_ | refine blockQ_o rfl ?_)
    simp [Try.f26]
end Go.Proofs.Ytbofobjofngoeaa.EngS


set_option linter.unusedSimpArgs false
set_option linter.unusedVariables false
set_option maxHeartbeats 4000000
set_option maxRecDepth 100000
namespace Go.Proofs.Ytbofobjofngoeaa.EngS
open Go Go.Proofs Go.Eng Go.RowKit
abbrev EdtX := Int × Int × List Int × ByteArray × ByteArray
def edtX (x : EdtX) : Edt := ⟨x.1, x.2.1, x.2.2.1, x.2.2.2.1, x.2.2.2.2⟩
theorem edts_X (l : List EdtX) : (l.map fun x => PV.ag [PV.sc (.int .i64 x.1), PV.sc (.int .i64 x.2.1), PV.sl true 1 (x.2.2.1.map (fun n => PV.sc (.int .i64 n))), PV.sc (.string x.2.2.2.1), PV.sc (.string x.2.2.2.2)]) = edts true (l.map edtX) := by
  rw [edts, els, List.map_map]; rfl
def WfX (x : List EdtX) : Prop := x.length ≤ maxLen ∧ ∀ y ∈ x, (Lit.int .i64 y.1).wf = true ∧ (Lit.int .i64 y.2.1).wf = true ∧ (y.2.2.1.length ≤ maxLen ∧ ∀ z ∈ y.2.2.1, (Lit.int .i64 z).wf = true) ∧ y.2.2.2.1.size ≤ maxLen ∧ y.2.2.2.2.size ≤ maxLen
theorem WfX.v {x : List EdtX} (h : WfX x) : (x.map edtX).length ≤ 9223372036854775807 ∧ ∀ e ∈ x.map edtX, EdtV e := by
  have hm : maxLen = 9223372036854775807 := rfl
  refine ⟨by rw [List.length_map, ← hm]; exact h.1, fun e he => ?_⟩
  obtain ⟨y, hy, rfl⟩ := List.mem_map.1 he
  obtain ⟨-, -, h3, h4, h5⟩ := h.2 y hy
  rw [hm] at h3 h4 h5
  exact ⟨h4, h5, h3.1⟩
theorem hist_len {l : List Edt} {n : Int} (h : hist l n = true) : l.length ≤ 24 := (hist_iff'.1 h).len
end Go.Proofs.Ytbofobjofngoeaa.EngS


set_option linter.unusedSimpArgs false
set_option linter.unusedVariables false
set_option maxHeartbeats 4000000
set_option maxRecDepth 100000
namespace Go.Proofs.Ytbofobjofngoeaa.EngS
open Go Go.Proofs Go.Eng Go.RowKit
theorem c_IndexFunc_edt (l : List Edt) (f : Nat) (C1 C2 : List PV) (p : Edt → Bool) (h : l.length ≤ 9223372036854775806) (hbf : HasBody Try.prog f) (cf : ∀ x ∈ l, ACall Try.prog f [edtD x, .p C1, .p C2] [.x, .p C1, .p C2] [boo (p x)]) :
    ACall Try.prog 124 [.v (.sl true 5 (edts true l)), .f f [C1, C2]] [.x, .f f [C1, C2]] [int (idx p l)] := by
  replace cf : Hd _ := cf
  refine ACall.of (N := 19) tok Try.func124 rfl rfl rfl (by simp) ?_
  repeat' (first | with_reducible refine OutOK.done ?_ | refine thenQ_n ?_ | refine thenQ_r ?_ | refine thenQ_e ?_ | refine AW.seq ?_ | refine AW.reg tok (by simp [*]; rfl) ?_ | refine AW.ifB (by simp [*]; rfl) ?_ | refine IfG.t ?_ | refine IfG.f ?_ | (refine IfG.p (fun hg => ?_) (fun hg => ?_) <;> (try (have hg' := hg; simp at hg'))) | (refine IfG.n (fun hg => ?_) (fun hg => ?_) <;> (try (have hg' := hg; simp at hg'))) | (refine OutOK.gateP (fun hg => ?_) (fun hg => ?_) <;> (try (have hg' := hg; simp at hg'))) | (refine OutOK.gateN (fun hg => ?_) (fun hg => ?_) <;> (try (have hg' := hg; simp at hg'))) | (refine IfG.g (fun hg => ?_) (fun hg => ?_) <;> (try (have hg' := hg; simp at hg'))) | (refine OutOK.gate (fun hg => ?_) (fun hg => ?_) <;> (try (have hg' := hg; simp at hg'))) | refine OutOK.run (by simp [*]; rfl) ?_ | refine AW.ret ?_ | refine AW.skip ?_ | refine AW.exit ?_ | refine fin_r ?_ | refine fin_n ?_ | refine AW.block ?_ | refine blockQ_n ?_ | refine blockQ_r ?_ | refine blockQ_e ?_ | refine blockQ_o rfl ?_)
  refine AW.loopL (fun i => i ≤ l.length ∧ Hd ((l.take i).any p = false)) (fun i => [(0, .c (.sl true 5 (edts true l))), (1, .fn f [.pt 100000051 [] 0, .pt 100000052 [] 0]), (7, .c (.sc (.int .i64 (l.length : Int)))), (8, .c (.sc (.int .i64 (i : Int))))]) (fun _ => [(100000051, .bx C1), (100000052, .bx C2)]) (fun i => l.length - i) 0 ⟨Nat.zero_le _, by simp [Hd]⟩ ⟨by simp, by simp, by simp⟩ ?_
  rintro i ⟨hi, hs⟩
  rcases Nat.lt_or_ge i l.length with hl | hl
  · have e1 : wrap64 ((i : Int) + 1) = ((i + 1 : Nat) : Int) := by rw [w64 (by omega) (by omega)]; omega
    have cs := cf.out l[i] (List.getElem_mem hl)
    cases hp : p l[i] with
    | true =>
      rw [hp] at cs
      have hf : idx p l = (i : Int) := idx_at hl hs.out hp
      clear cf
      repeat' (first | with_reducible refine OutOK.done ?_ | refine thenQ_n ?_ | refine thenQ_r ?_ | refine thenQ_e ?_ | refine AW.seq ?_ | refine AW.reg tok (by simp [*]; rfl) ?_ | refine AW.ifB (by simp [*]; rfl) ?_ | refine IfG.t ?_ | refine IfG.f ?_ | (refine IfG.p (fun hg => ?_) (fun hg => ?_) <;> (try (have hg' := hg; simp at hg'))) | (refine IfG.n (fun hg => ?_) (fun hg => ?_) <;> (try (have hg' := hg; simp at hg'))) | (refine OutOK.gateP (fun hg => ?_) (fun hg => ?_) <;> (try (have hg' := hg; simp at hg'))) | (refine OutOK.gateN (fun hg => ?_) (fun hg => ?_) <;> (try (have hg' := hg; simp at hg'))) | (refine IfG.g (fun hg => ?_) (fun hg => ?_) <;> (try (have hg' := hg; simp at hg'))) | (refine OutOK.gate (fun hg => ?_) (fun hg => ?_) <;> (try (have hg' := hg; simp at hg'))) | (refine OutOK.callF [] (by simp [*]; rfl) (by simp [*]; rfl) (by simp [*]; rfl) hbf (by apply cs <;> first | assumption | exact Hd.out (by assumption) | ((try (clear e0)); (try (clear e1)); (try (clear e2)); (try (clear e3)); (try (clear e4)); (try (clear e5)); (try (clear e6)); (try (clear e7)); (try (clear e8)); (try (clear e9)); (try (clear e10)); (try (clear e11)); omega)) ⟨by simp [*], by simp [*], by simp [*], by simp [*], by simp [*]⟩ (by simp [*]) (by simp [*]; rfl) ?_) | refine OutOK.run (by simp [*]; rfl) ?_ | refine AW.ret ?_ | refine AW.skip ?_ | refine AW.exit ?_ | refine fin_r ?_ | refine fin_n ?_ | refine AW.block ?_ | refine blockQ_n ?_ | refine blockQ_r ?_ | refine blockQ_e ?_ | refine blockQ_o rfl ?_)
      simp [Try.f124, hf]
    | false =>
      rw [hp] at cs
      have hs2 : Hd ((l.take (i + 1)).any p = false) := any_more hl hs.out hp
      clear cf
      repeat' (first | with_reducible refine OutOK.done ?_ | refine thenQ_n ?_ | refine thenQ_r ?_ | refine thenQ_e ?_ | refine AW.seq ?_ | refine AW.reg tok (by simp [*]; rfl) ?_ | refine AW.ifB (by simp [*]; rfl) ?_ | refine IfG.t ?_ | refine IfG.f ?_ | (refine IfG.p (fun hg => ?_) (fun hg => ?_) <;> (try (have hg' := hg; simp at hg'))) | (refine IfG.n (fun hg => ?_) (fun hg => ?_) <;> (try (have hg' := hg; simp at hg'))) | (refine OutOK.gateP (fun hg => ?_) (fun hg => ?_) <;> (try (have hg' := hg; simp at hg'))) | (refine OutOK.gateN (fun hg => ?_) (fun hg => ?_) <;> (try (have hg' := hg; simp at hg'))) | (refine IfG.g (fun hg => ?_) (fun hg => ?_) <;> (try (have hg' := hg; simp at hg'))) | (refine OutOK.gate (fun hg => ?_) (fun hg => ?_) <;> (try (have hg' := hg; simp at hg'))) | (refine OutOK.callF [] (by simp [*]; rfl) (by simp [*]; rfl) (by simp [*]; rfl) hbf (by apply cs <;> first | assumption | exact Hd.out (by assumption) | ((try (clear e0)); (try (clear e1)); (try (clear e2)); (try (clear e3)); (try (clear e4)); (try (clear e5)); (try (clear e6)); (try (clear e7)); (try (clear e8)); (try (clear e9)); (try (clear e10)); (try (clear e11)); omega)) ⟨by simp [*], by simp [*], by simp [*], by simp [*], by simp [*]⟩ (by simp [*]) (by simp [*]; rfl) ?_) | refine OutOK.run (by simp [*]; rfl) ?_ | refine AW.ret ?_ | refine AW.skip ?_ | refine AW.exit ?_ | refine fin_r ?_ | refine fin_n ?_ | refine AW.block ?_ | refine blockQ_n ?_ | refine blockQ_r ?_ | refine blockQ_e ?_ | refine blockQ_o rfl ?_)
      exact ⟨i + 1, ⟨hl, hs2⟩, ⟨by simp, by simp, by simp⟩, by ((try (clear e0)); (try (clear e1)); (try (clear e2)); (try (clear e3)); (try (clear e4)); (try (clear e5)); (try (clear e6)); (try (clear e7)); (try (clear e8)); (try (clear e9)); (try (clear e10)); (try (clear e11)); omega)⟩
  · have hf : idx p l = -1 := idx_none (any_end hl hs.out)
    have hn : ¬ i < l.length := by omega
    clear cf
    repeat' (first | with_reducible refine OutOK.done ?_ | refine thenQ_n ?_ | refine thenQ_r ?_ | refine thenQ_e ?_ | refine AW.seq ?_ | refine AW.reg tok (by simp [*]; rfl) ?_ | refine AW.ifB (by simp [*]; rfl) ?_ | refine IfG.t ?_ | refine IfG.f ?_ | (refine IfG.p (fun hg => ?_) (fun hg => ?_) <;> (try (have hg' := hg; simp at hg'))) | (refine IfG.n (fun hg => ?_) (fun hg => ?_) <;> (try (have hg' := hg; simp at hg'))) | (refine OutOK.gateP (fun hg => ?_) (fun hg => ?_) <;> (try (have hg' := hg; simp at hg'))) | (refine OutOK.gateN (fun hg => ?_) (fun hg => ?_) <;> (try (have hg' := hg; simp at hg'))) | (refine IfG.g (fun hg => ?_) (fun hg => ?_) <;> (try (have hg' := hg; simp at hg'))) | (refine OutOK.gate (fun hg => ?_) (fun hg => ?_) <;> (try (have hg' := hg; simp at hg'))) | refine OutOK.run (by simp [*]; rfl) ?_ | refine AW.ret ?_ | refine AW.skip ?_ | refine AW.exit ?_ | refine fin_r ?_ | refine fin_n ?_ | refine AW.block ?_ | refine blockQ_n ?_ | refine blockQ_r ?_ | refine blockQ_e ?_ | refine blockQ_o rfl ?_)
    simp [Try.f124, hf]
end Go.Proofs.Ytbofobjofngoeaa.EngS


set_option linter.unusedSimpArgs false
set_option linter.unusedVariables false
set_option maxHeartbeats 4000000
set_option maxRecDepth 100000
namespace Go.Proofs.Ytbofobjofngoeaa.EngS
open Go Go.Proofs Go.Eng Go.RowKit
theorem hist_ck {l : List Edt} {n : Int} (h : hist l n = true) : ∀ e ∈ l, e.ck.length ≤ 3 := by
  have hh := hist_iff'.1 h
  intro e he
  obtain ⟨i, hi, rfl⟩ := List.getElem_of_mem he
  have := (hh.fl i hi).1
  have := (inR_iff.1 hh.nn).2
  omega
end Go.Proofs.Ytbofobjofngoeaa.EngS


set_option linter.unusedSimpArgs false
set_option linter.unusedVariables false
set_option maxHeartbeats 4000000
set_option maxRecDepth 100000
namespace Go.Proofs.Ytbofobjofngoeaa.EngS
open Go Go.Proofs Go.Eng Go.RowKit
end Go.Proofs.Ytbofobjofngoeaa.EngS


set_option linter.unusedSimpArgs false
set_option linter.unusedVariables false
namespace Go.Eng
open Go.RowKit
variable {P : Program} {T : Nat → Option TI} {N : Nat}
def ownR (st : St) (t m : Nat) : Option St :=
  match st.env t with
  | .rn n [] (.sub 0 hi k) => match st.σ n with
    | some (.sv (.sl false k' es)) => if k' = k ∧ m < 100000000 ∧ st.σ m = none then some (((st.move [n]).new m (.sv (.sl false k (es.take hi)))).put (some t) (.rf m [])) else none
    | _ => none
  | _ => none
theorem Rel.ownR {fr a w} (hf : FrOK P N fr) {st st2 : St} {t m : Nat} (h2 : Go.Eng.ownR st t m = some st2) (h : Rel fr st a w) : Rel fr st2 a w := by
  obtain ⟨S, rv, hR⟩ := h
  unfold Go.Eng.ownR at h2
  split at h2
  · rename_i n hi k he
    split at h2
    · rename_i k' es hσ
      split at h2
      · rename_i hk
        cases h2
        obtain ⟨rfl, hn, hm0⟩ := hk
        have hv := hR.env t
        rw [he, VR_rn] at hv
        obtain ⟨u, hu, A, mm, cap, rfl, hmc, _, him, hv⟩ := hv
        rw [VR_rf] at hu
        obtain ⟨r, hr, hat, _⟩ := hu
        rw [hσ] at hr
        cases hr
        simp only [rAt, Option.some.injEq] at hat
        obtain ⟨_, hrv⟩ := hR.rr n _ hσ
        rw [hat, RV_ow] at hrv
        have hnew : RR w fr.X (.sv (.sl false k' (es.take hi))) (a.tmps.getD t undef) (S n) := by
          refine ⟨rfl, ?_⟩
          rw [RV_ow, hv]
          rcases hrv with ⟨h1, h2⟩ | ⟨b, cap', cur, ty, h1, h2, h3, h4, h5, h6⟩
          · cases h1
            left
            have : hi = 0 := by omega
            subst this
            simp
          · cases h1
            right
            have hl : (es.take hi).length = hi := by simp; omega
            refine ⟨b, cap, cur, ty, ?_, by omega, h3, h4, h5, RE_take hi es b 0 _ h6⟩
            rw [hl]
            by_cases hc : cap = 0
            · simp [hc]
            · simp [hc, Addr.add]
        obtain ⟨S', rv', hR', hrv'⟩ := Rel0.consume hf hR (w' := w) (d := m) (ms := [n]) rfl TD.refl rfl (Nat.le_refl _) (fun _ _ _ => rfl) (.inl hm0) (fun q hq => by simp at hq; subst hq; exact ⟨_, hσ⟩) hnew (fun b hb => .inr ⟨n, by simp, hb⟩)
          (by cases e : fr.rv0 m with
              | none => rfl
              | some v => have := hf.names m v e; omega)
        refine ⟨S', rv', { hR' with env := fun t' => ?_ }⟩
        simp only [St.put]
        by_cases ht : t' = t
        · subst ht
          rw [if_pos rfl, VR_rf]
          exact ⟨.sv (.sl false k' (es.take hi)), by simp [St.new], by simp [rAt, hrv'], false, k', es.take hi, rfl⟩
        · rw [if_neg ht]; exact hR'.env t'
      · cases h2
    · cases h2
  · cases h2
theorem AW.ownR {c : Code} {st st2 : St} {Q : Exit → St → Prop} (t m : Nat) (h : Go.Eng.ownR st t m = some st2) (hc : AW P N c st2 Q) : AW P N c st Q := fun fr a w hf hr => hc fr a w hf (Rel.ownR hf h hr)
attribute [simp] ownR
def clrL (T : Nat → Option TI) (e : List (Nat × V)) (r : List (Nat × Root)) (t : Nat) : V → Option St
  | .rn n [] (.sub lo hi k) => match lookR r n with
    | some (.sv (.sl false k' es)) => (T t).bind fun i => match i.kd with
      | .sl e' kk _ => (T e').bind fun ie => if k' = k ∧ kk = k ∧ hi = es.length ∧ lo ≤ hi ∧ (ie.agg = false → k = 1) ∧ 0 < k then
          some (mk (e.map fun q => (q.1, q.2.ren (killIn n) (killIn n))) (ins n (.sv (.sl false k (es.take lo ++ List.replicate (hi - lo) (xxEl ie.agg k)))) r)) else none
      | _ => none
    | _ => none
  | _ => none
theorem mk_clr (e : List (Nat × V)) (r : List (Nat × Root)) (n : Nat) (x : Root) : ({ env := fun t => ((mk e r).env t).ren (killIn n) (killIn n), σ := fun m => if m = n then some x else (mk e r).σ m } : St) = mk (e.map fun q => (q.1, q.2.ren (killIn n) (killIn n))) (ins n x r) := by
  simp only [mk]
  congr
  · funext t; rw [look_map _ rfl]
  · funext t; rw [lookR_ins]
@[simp] theorem clrSt_mk (T : Nat → Option TI) (e r t x) : clrSt T (mk e r) t x = clrL T e r t x := by
  cases x with
  | rn n p s =>
    cases p with
    | cons i p => rfl
    | nil =>
      cases s with
      | known v => rfl
      | sub lo hi k =>
        simp only [clrSt, clrL, mk_clr]
        rfl
  | _ => rfl
attribute [simp] clrL killIn
end Go.Eng

set_option linter.unusedSimpArgs false
set_option linter.unusedVariables false
set_option maxHeartbeats 4000000
set_option maxRecDepth 100000
namespace Go.Proofs.Ytbofobjofngoeaa.EngS
open Go Go.Proofs Go.Eng Go.RowKit
attribute [local simp] optO sliceV
theorem c_impl_editOf_1 (e : Edt) (t n : Int) : ACall Try.prog 125 [edtD e, .p [.sc (.int .i64 t)], .p [.sc (.int .i64 n)]] [.x, .p [.sc (.int .i64 t)], .p [.sc (.int .i64 n)]] [boo (keyE t n e)] := by
  by_cases h1 : e.tm = t
  · refine ACall.of (N := 15) tok Try.func125 rfl rfl rfl (by simp) ?_
    repeat' (first | with_reducible refine OutOK.done ?_ | refine thenQ_n ?_ | refine thenQ_r ?_ | refine thenQ_e ?_ | refine AW.seq ?_ | refine AW.reg tok (by simp [*]; rfl) ?_ | refine AW.ifB (by simp [*]; rfl) ?_ | refine IfG.t ?_ | refine IfG.f ?_ | (refine IfG.p (fun hg => ?_) (fun hg => ?_) <;> (try (have hg' := hg; simp at hg'))) | (refine IfG.n (fun hg => ?_) (fun hg => ?_) <;> (try (have hg' := hg; simp at hg'))) | (refine OutOK.gateP (fun hg => ?_) (fun hg => ?_) <;> (try (have hg' := hg; simp at hg'))) | (refine OutOK.gateN (fun hg => ?_) (fun hg => ?_) <;> (try (have hg' := hg; simp at hg'))) | (refine IfG.g (fun hg => ?_) (fun hg => ?_) <;> (try (have hg' := hg; simp at hg'))) | (refine OutOK.gate (fun hg => ?_) (fun hg => ?_) <;> (try (have hg' := hg; simp at hg'))) | refine OutOK.run (by simp [*]; rfl) ?_ | refine AW.ret ?_ | refine AW.skip ?_ | refine AW.exit ?_ | refine fin_r ?_ | refine fin_n ?_ | refine AW.block ?_ | refine blockQ_n ?_ | refine blockQ_r ?_ | refine blockQ_e ?_ | refine blockQ_o rfl ?_)
    all_goals simp [Try.f125, keyE, *]
  · refine ACall.of (N := 15) tok Try.func125 rfl rfl rfl (by simp) ?_
    repeat' (first | with_reducible refine OutOK.done ?_ | refine thenQ_n ?_ | refine thenQ_r ?_ | refine thenQ_e ?_ | refine AW.seq ?_ | refine AW.reg tok (by simp [*]; rfl) ?_ | refine AW.ifB (by simp [*]; rfl) ?_ | refine IfG.t ?_ | refine IfG.f ?_ | (refine IfG.p (fun hg => ?_) (fun hg => ?_) <;> (try (have hg' := hg; simp at hg'))) | (refine IfG.n (fun hg => ?_) (fun hg => ?_) <;> (try (have hg' := hg; simp at hg'))) | (refine OutOK.gateP (fun hg => ?_) (fun hg => ?_) <;> (try (have hg' := hg; simp at hg'))) | (refine OutOK.gateN (fun hg => ?_) (fun hg => ?_) <;> (try (have hg' := hg; simp at hg'))) | (refine IfG.g (fun hg => ?_) (fun hg => ?_) <;> (try (have hg' := hg; simp at hg'))) | (refine OutOK.gate (fun hg => ?_) (fun hg => ?_) <;> (try (have hg' := hg; simp at hg'))) | refine OutOK.run (by simp [*]; rfl) ?_ | refine AW.ret ?_ | refine AW.skip ?_ | refine AW.exit ?_ | refine fin_r ?_ | refine fin_n ?_ | refine AW.block ?_ | refine blockQ_n ?_ | refine blockQ_r ?_ | refine blockQ_e ?_ | refine blockQ_o rfl ?_)
    all_goals simp [Try.f125, keyE, *]
theorem c_impl_editOf (l : List Edt) (t n : Int) (h : l.length ≤ 9223372036854775806) : ACall Try.prog 92 [.v (.sl true 5 (edts true l)), int t, int n] [.x, .x, .x] [int (fndE l t n)] := by
  have ci := c_IndexFunc_edt l 125 [.sc (.int .i64 t)] [.sc (.int .i64 n)] (keyE t n) h (by simp) (fun x _ => c_impl_editOf_1 x t n)
  rw [show idx (keyE t n) l = fndE l t n from rfl] at ci
  generalize fndE l t n = F at *
  refine ACall.of (N := 10) tok Try.func92 rfl rfl rfl (by simp) ?_
  repeat' (first | with_reducible refine OutOK.done ?_ | refine thenQ_n ?_ | refine thenQ_r ?_ | refine thenQ_e ?_ | refine AW.seq ?_ | refine AW.reg tok (by simp [*]; rfl) ?_ | refine AW.ifB (by simp [*]; rfl) ?_ | refine IfG.t ?_ | refine IfG.f ?_ | (refine IfG.p (fun hg => ?_) (fun hg => ?_) <;> (try (have hg' := hg; simp at hg'))) | (refine IfG.n (fun hg => ?_) (fun hg => ?_) <;> (try (have hg' := hg; simp at hg'))) | (refine OutOK.gateP (fun hg => ?_) (fun hg => ?_) <;> (try (have hg' := hg; simp at hg'))) | (refine OutOK.gateN (fun hg => ?_) (fun hg => ?_) <;> (try (have hg' := hg; simp at hg'))) | (refine IfG.g (fun hg => ?_) (fun hg => ?_) <;> (try (have hg' := hg; simp at hg'))) | (refine OutOK.gate (fun hg => ?_) (fun hg => ?_) <;> (try (have hg' := hg; simp at hg'))) | (refine OutOK.callF [] (by simp [*]; rfl) (by simp [*]; rfl) (by simp [*]; rfl) hb124 (by apply ci <;> first | assumption | exact Hd.out (by assumption) | ((try (clear e0)); (try (clear e1)); (try (clear e2)); (try (clear e3)); (try (clear e4)); (try (clear e5)); (try (clear e6)); (try (clear e7)); (try (clear e8)); (try (clear e9)); (try (clear e10)); (try (clear e11)); omega)) ⟨by simp [*], by simp [*], by simp [*], by simp [*], by simp [*]⟩ (by simp [*]) (by simp [*]; rfl) ?_) | refine OutOK.run (by simp [*]; rfl) ?_ | refine AW.ret ?_ | refine AW.skip ?_ | refine AW.exit ?_ | refine fin_r ?_ | refine fin_n ?_ | refine AW.block ?_ | refine blockQ_n ?_ | refine blockQ_r ?_ | refine blockQ_e ?_ | refine blockQ_o rfl ?_)
  simp [Try.f92]
theorem c_slices_Clone_edt (l : List Edt) (h : l.length ≤ 1000) : ACall Try.prog 126 [.v (.sl true 5 (edts true l))] [.x] [.v (.sl false 5 (edts true l))] := by
  have h1 : (l.length : Int) * 72 ≤ 140737488355328 := by omega
  have h2 : (l.length : Int) ≤ 4611686018427387904 := by omega
  have h3 : l.length * 72 ≤ 140737488355328 := by omega
  have h4 : l.length ≤ 4611686018427387904 := by omega
  refine ACall.of (N := 8) tok Try.func126 rfl rfl rfl (by simp) ?_
  repeat' (first | with_reducible refine OutOK.done ?_ | refine thenQ_n ?_ | refine thenQ_r ?_ | refine thenQ_e ?_ | refine AW.seq ?_ | (refine AW.isNil tok rfl rfl rfl (by simp [*]; rfl) (by simp [*]; done) (by decide) ?_; intro hb hc; cases hb <;> simp at hc) | refine AW.reg tok (by simp [*]; rfl) ?_ | refine AW.ifB (by simp [*]; rfl) ?_ | refine IfG.t ?_ | refine IfG.f ?_ | (refine IfG.p (fun hg => ?_) (fun hg => ?_) <;> (try (have hg' := hg; simp at hg'))) | (refine IfG.n (fun hg => ?_) (fun hg => ?_) <;> (try (have hg' := hg; simp at hg'))) | (refine OutOK.gateP (fun hg => ?_) (fun hg => ?_) <;> (try (have hg' := hg; simp at hg'))) | (refine OutOK.gateN (fun hg => ?_) (fun hg => ?_) <;> (try (have hg' := hg; simp at hg'))) | (refine IfG.g (fun hg => ?_) (fun hg => ?_) <;> (try (have hg' := hg; simp at hg'))) | (refine OutOK.gate (fun hg => ?_) (fun hg => ?_) <;> (try (have hg' := hg; simp at hg'))) | refine OutOK.run (by simp [*]; rfl) ?_ | refine AW.ret ?_ | refine AW.skip ?_ | refine AW.exit ?_ | refine fin_r ?_ | refine fin_n ?_ | refine AW.block ?_ | refine blockQ_n ?_ | refine blockQ_r ?_ | refine blockQ_e ?_ | refine blockQ_o rfl ?_)
  all_goals (try simp [*, Try.f126])
def mixE (l : List Edt) (i : Nat) : List PV := edts false (l.take i) ++ edts true (l.drop i)
theorem mixE_len (l : List Edt) (i : Nat) (h : i ≤ l.length) : (mixE l i).length = l.length := by simp [mixE]; omega
theorem mixE_at (l : List Edt) (i : Nat) (h : i < l.length) : (mixE l i)[i]? = some (.ag (edtC true l[i])) := by
  rw [mixE, List.getElem?_append_right (by simp; omega)]
  simp
  rw [show i - min i l.length = 0 by omega]
  simp [h]
theorem mixE_set (l : List Edt) (i : Nat) (h : i < l.length) : (mixE l i).set i (.ag (edtC false l[i])) = mixE l (i + 1) := by
  have hl : (edts false (l.take i)).length = i := by simp; omega
  have e1 : edts true (l.drop i) = .ag (edtC true l[i]) :: edts true (l.drop (i + 1)) := by
    have := List.drop_eq_getElem_cons h
    rw [this]; rfl
  have e2 : edts false (l.take (i + 1)) = edts false (l.take i) ++ [.ag (edtC false l[i])] := by
    have := List.take_succ_eq_append_getElem h
    rw [this, edts, els, List.map_append]; rfl
  rw [mixE, List.set_append_right _ _ (by omega), hl, Nat.sub_self, e1, List.set_cons_zero, mixE, e2, List.append_assoc]
  rfl
theorem c_impl_copyEdits (l : List Edt) (h : l.length ≤ 1000) (hck : ∀ e ∈ l, e.ck.length ≤ 1048576) : ACall Try.prog 95 [.v (.sl true 5 (edts true l))] [.x] [.v (.sl false 5 (edts false l))] := by
  have cc := c_slices_Clone_edt l h
  have hck' : Hd _ := hck
  have hm0 : Hd (mixE l 0 = edts true l) := by simp [Hd, mixE]
  have hml : Hd (mixE l l.length = edts false l) := by simp [Hd, mixE]
  clear hck
  refine ACall.of (N := 24) tok Try.func95 rfl rfl rfl (by simp) ?_
  repeat' (first | with_reducible refine OutOK.done ?_ | refine thenQ_n ?_ | refine thenQ_r ?_ | refine thenQ_e ?_ | refine AW.seq ?_ | refine AW.reg tok (by simp [*]; rfl) ?_ | refine AW.ifB (by simp [*]; rfl) ?_ | refine IfG.t ?_ | refine IfG.f ?_ | (refine IfG.p (fun hg => ?_) (fun hg => ?_) <;> (try (have hg' := hg; simp at hg'))) | (refine IfG.n (fun hg => ?_) (fun hg => ?_) <;> (try (have hg' := hg; simp at hg'))) | (refine OutOK.gateP (fun hg => ?_) (fun hg => ?_) <;> (try (have hg' := hg; simp at hg'))) | (refine OutOK.gateN (fun hg => ?_) (fun hg => ?_) <;> (try (have hg' := hg; simp at hg'))) | (refine IfG.g (fun hg => ?_) (fun hg => ?_) <;> (try (have hg' := hg; simp at hg'))) | (refine OutOK.gate (fun hg => ?_) (fun hg => ?_) <;> (try (have hg' := hg; simp at hg'))) | (refine OutOK.callF [] (by simp [*]; rfl) (by simp [*]; rfl) (by simp [*]; rfl) hb126 (by apply cc <;> first | assumption | exact Hd.out (by assumption) | ((try (clear e0)); (try (clear e1)); (try (clear e2)); (try (clear e3)); (try (clear e4)); (try (clear e5)); (try (clear e6)); (try (clear e7)); (try (clear e8)); (try (clear e9)); (try (clear e10)); (try (clear e11)); omega)) ⟨by simp [*], by simp [*], by simp [*], by simp [*], by simp [*]⟩ (by simp [*]) (by simp [*]; rfl) ?_) | refine OutOK.run (by simp [*]; rfl) ?_ | refine AW.ret ?_ | refine AW.skip ?_ | refine AW.exit ?_ | refine fin_r ?_ | refine fin_n ?_ | refine AW.block ?_ | refine blockQ_n ?_ | refine blockQ_r ?_ | refine blockQ_e ?_ | refine blockQ_o rfl ?_)
  refine AW.loopL (α := Nat) (fun i => i ≤ l.length) (fun i => [(3, .rf 6000 []), (8, .c (.sc (.int .i64 (l.length : Int)))), (9, .c (.sc (.int .i64 (i : Int))))]) (fun i => [(6000, .sv (.sl false 5 (mixE l i)))]) (fun i => l.length - i) 0 (Nat.zero_le _) ⟨by simp, by simp [hm0.out], by simp⟩ ?_
  intro i hi
  rcases Nat.lt_or_ge i l.length with hl | hl
  · have e1 : wrap64 ((i : Int) + 1) = ((i + 1 : Nat) : Int) := by rw [w64 (by omega) (by omega)]; omega
    have ci := c_slices_Clone_int_int l[i].ck (hck'.out _ (List.getElem_mem hl))
    have hM := mixE_len l i hi
    have hat := mixE_at l i hl
    have hst : Hd ((mixE l i).set i (.ag (edtC false l[i])) = mixE l (i + 1)) := mixE_set l i hl
    generalize mixE l i = M at *
    have hiM : i < M.length := by omega
    simp only [edtC_eq] at hat
    have hat2 : M[i] = .ag [.sc (.int .i64 l[i].tm), .sc (.int .i64 l[i].ct), .sl true 1 (ints l[i].ck), .sc (.string l[i].it), .sc (.string l[i].tx)] := by rw [List.getElem?_eq_getElem hiM] at hat; simpa using hat
    repeat' (first | with_reducible refine OutOK.done ?_ | refine thenQ_n ?_ | refine thenQ_r ?_ | refine thenQ_e ?_ | refine AW.seq ?_ | refine AW.reg tok (by simp [*]; rfl) ?_ | refine AW.ifB (by simp [*]; rfl) ?_ | refine IfG.t ?_ | refine IfG.f ?_ | (refine IfG.p (fun hg => ?_) (fun hg => ?_) <;> (try (have hg' := hg; simp at hg'))) | (refine IfG.n (fun hg => ?_) (fun hg => ?_) <;> (try (have hg' := hg; simp at hg'))) | (refine OutOK.gateP (fun hg => ?_) (fun hg => ?_) <;> (try (have hg' := hg; simp at hg'))) | (refine OutOK.gateN (fun hg => ?_) (fun hg => ?_) <;> (try (have hg' := hg; simp at hg'))) | (refine IfG.g (fun hg => ?_) (fun hg => ?_) <;> (try (have hg' := hg; simp at hg'))) | (refine OutOK.gate (fun hg => ?_) (fun hg => ?_) <;> (try (have hg' := hg; simp at hg'))) | (refine OutOK.callF [] (by simp [*]; rfl) (by simp [*]; rfl) (by simp [*]; rfl) hb127 (by apply ci <;> first | assumption | exact Hd.out (by assumption) | ((try (clear e0)); (try (clear e1)); (try (clear e2)); (try (clear e3)); (try (clear e4)); (try (clear e5)); (try (clear e6)); (try (clear e7)); (try (clear e8)); (try (clear e9)); (try (clear e10)); (try (clear e11)); omega)) ⟨by simp [*], by simp [*], by simp [*], by simp [*], by simp [*]⟩ (by simp [*]) (by simp [*]; rfl) ?_) | refine OutOK.run (by simp [*]; rfl) ?_ | refine AW.ret ?_ | refine AW.skip ?_ | refine AW.exit ?_ | refine fin_r ?_ | refine fin_n ?_ | refine AW.block ?_ | refine blockQ_n ?_ | refine blockQ_r ?_ | refine blockQ_e ?_ | refine blockQ_o rfl ?_)
    exact ⟨i + 1, hl, ⟨by simp, by simp [← hst.out], by simp⟩, by ((try (clear e0)); (try (clear e1)); (try (clear e2)); (try (clear e3)); (try (clear e4)); (try (clear e5)); (try (clear e6)); (try (clear e7)); (try (clear e8)); (try (clear e9)); (try (clear e10)); (try (clear e11)); omega)⟩
  · have hii : i = l.length := by omega
    subst hii
    rw [hml.out]
    repeat' (first | with_reducible refine OutOK.done ?_ | refine thenQ_n ?_ | refine thenQ_r ?_ | refine thenQ_e ?_ | refine AW.seq ?_ | refine AW.reg tok (by simp [*]; rfl) ?_ | refine AW.ifB (by simp [*]; rfl) ?_ | refine IfG.t ?_ | refine IfG.f ?_ | (refine IfG.p (fun hg => ?_) (fun hg => ?_) <;> (try (have hg' := hg; simp at hg'))) | (refine IfG.n (fun hg => ?_) (fun hg => ?_) <;> (try (have hg' := hg; simp at hg'))) | (refine OutOK.gateP (fun hg => ?_) (fun hg => ?_) <;> (try (have hg' := hg; simp at hg'))) | (refine OutOK.gateN (fun hg => ?_) (fun hg => ?_) <;> (try (have hg' := hg; simp at hg'))) | (refine IfG.g (fun hg => ?_) (fun hg => ?_) <;> (try (have hg' := hg; simp at hg'))) | (refine OutOK.gate (fun hg => ?_) (fun hg => ?_) <;> (try (have hg' := hg; simp at hg'))) | refine OutOK.run (by simp [*]; rfl) ?_ | refine AW.ret ?_ | refine AW.skip ?_ | refine AW.exit ?_ | refine fin_r ?_ | refine fin_n ?_ | refine AW.block ?_ | refine blockQ_n ?_ | refine blockQ_r ?_ | refine blockQ_e ?_ | refine blockQ_o rfl ?_)
    simp [Try.f95]
end Go.Proofs.Ytbofobjofngoeaa.EngS


set_option linter.unusedSimpArgs false
set_option linter.unusedVariables false
set_option maxHeartbeats 4000000
set_option maxRecDepth 100000
namespace Go.Proofs.Ytbofobjofngoeaa.EngS
open Go Go.Proofs Go.Eng Go.RowKit
attribute [local simp] optO sliceV
end Go.Proofs.Ytbofobjofngoeaa.EngS


set_option linter.unusedSimpArgs false
set_option linter.unusedVariables false
set_option maxHeartbeats 4000000
set_option maxRecDepth 10000
namespace Go.Proofs.Ytbofobjofngoeaa.EngS
open Go Go.Proofs Go.Eng Go.RowKit
end Go.Proofs.Ytbofobjofngoeaa.EngS


set_option linter.unusedSimpArgs false
set_option linter.unusedVariables false
set_option maxHeartbeats 4000000
set_option maxRecDepth 10000
namespace Go.Proofs.Ytbofobjofngoeaa.EngS
open Go Go.Proofs Go.Eng Go.RowKit
def gvn (l : List Smp) (i : Nat) : List Int := (List.range (l.length + 1)).map fun (p : Nat) => givI l p i
@[simp] theorem gvn_len (l i) : (gvn l i).length = l.length + 1 := by simp [gvn]
theorem gvn_zero (l) : gvn l 0 = List.replicate (l.length + 1) 0 := by
  apply List.ext_getElem
  · simp
  · intro j h1 h2; simp only [gvn, List.getElem_map, List.getElem_range, givI_zero, List.getElem_replicate]
end Go.Proofs.Ytbofobjofngoeaa.EngS


set_option linter.unusedSimpArgs false
set_option linter.unusedVariables false
set_option maxHeartbeats 4000000
set_option maxRecDepth 100000
namespace Go.Proofs.Ytbofobjofngoeaa.EngS
open Go Go.Proofs Go.Eng Go.RowKit
end Go.Proofs.Ytbofobjofngoeaa.EngS


set_option linter.unusedSimpArgs false
set_option linter.unusedVariables false
set_option maxHeartbeats 4000000
set_option maxRecDepth 100000
namespace Go.Proofs.Ytbofobjofngoeaa.EngS
open Go Go.Proofs Go.Eng Go.RowKit
def hasI (o : List Int) (i : Nat) : Bool := o.any fun x => decide (x = (i : Int))
def frB (l : List Edt) (o : List Int) (i k : Nat) : Bool := !(hasI o i) && (List.range k).all fun j => hasI o j || !(precE (l[j]?.getD default) (l[i]?.getD default))
def fre (l : List Edt) (o : List Int) (i : Nat) : Bool := frB l o i l.length
def nxtI (l : List Edt) (o : List Int) : Nat := (List.range l.length).findIdx (fre l o)
def ordL (l : List Edt) : Nat → List Int
  | 0 => []
  | q + 1 => ordL l q ++ [(nxtI l (ordL l q) : Int)]
@[simp] theorem ordL_len (l q) : (ordL l q).length = q := by
  induction q with
  | zero => rfl
  | succ q ih => simp [ordL, ih]
def bls (xs : List Bool) : List PV := xs.map fun x => .sc (.bool x)
@[simp] theorem bls_len (xs) : (bls xs).length = xs.length := by simp [bls]
@[simp] theorem bls_get (xs : List Bool) (i : Nat) : (bls xs)[i]? = (xs[i]?).map fun x => .sc (.bool x) := by simp [bls]
@[simp] theorem bls_at (xs : List Bool) (i : Nat) (h : i < (bls xs).length) : (bls xs)[i] = .sc (.bool (xs[i]'(by simpa using h))) := by simp [bls]
@[simp] theorem bls_frz (xs) : PV.frzs (bls xs) = bls xs := by simp [bls]
@[simp] theorem rep_bls (n : Nat) (x : Bool) : List.replicate n (PV.sc (.bool x)) = bls (List.replicate n x) := by simp [bls]
@[simp] theorem bls_set (xs : List Bool) (i : Nat) (x : Bool) : (bls xs).set i (.sc (.bool x)) = bls (xs.set i x) := by simp [bls, List.map_set]
@[simp] theorem bls_nofz (xs : List Bool) : PV.nofzs (bls xs) = true := by
  induction xs with
  | nil => rfl
  | cons x xs ih => simpa [bls] using ih
@[simp] theorem bls_coks (xs : List Bool) : PV.coks (bls xs) = true := by
  induction xs with
  | nil => rfl
  | cons x xs ih => simpa [bls] using ih
def dnL (l : List Edt) (o : List Int) : List Bool := (List.range l.length).map (hasI o)
@[simp] theorem dnL_len (l o) : (dnL l o).length = l.length := by simp [dnL]
@[simp] theorem dnL_at (l : List Edt) (o : List Int) (i : Nat) (h : i < (dnL l o).length) : (dnL l o)[i] = hasI o i := by simp [dnL]
theorem dnL_nil (l : List Edt) : dnL l [] = List.replicate l.length false := by
  apply List.ext_getElem
  · simp
  · intro j h1 h2; simp [hasI]
end Go.Proofs.Ytbofobjofngoeaa.EngS


set_option linter.unusedSimpArgs false
set_option linter.unusedVariables false
set_option maxHeartbeats 4000000
set_option maxRecDepth 100000
namespace Go.Proofs.Ytbofobjofngoeaa.EngS
open Go Go.Proofs Go.Eng Go.RowKit
end Go.Proofs.Ytbofobjofngoeaa.EngS


set_option linter.unusedSimpArgs false
set_option linter.unusedVariables false
set_option maxHeartbeats 4000000
set_option maxRecDepth 100000
namespace Go.Proofs.Ytbofobjofngoeaa.EngS
open Go Go.Proofs Go.Eng Go.RowKit
end Go.Proofs.Ytbofobjofngoeaa.EngS


set_option linter.unusedSimpArgs false
set_option linter.unusedVariables false
set_option maxHeartbeats 4000000
set_option maxRecDepth 100000
namespace Go.Proofs.Ytbofobjofngoeaa.EngS
open Go Go.Proofs Go.Eng Go.RowKit
attribute [local simp] optO sliceV
def JkE (t : PV) : Prop := ∃ a b c d e, c.isAg = false ∧ t = .ag [.sc (.int .i64 a), .sc (.int .i64 b), c, .sc (.string d), .sc (.string e)]
structure DInv (l : List Edt) (p : Edt → Bool) (j : Nat) (M : List PV) : Prop where
  jl : j ≤ l.length
  len : M.length = l.length
  lt : ((l.take j).filter fun x => !p x).length < j
  kept : ∀ m (h : m < ((l.take j).filter fun x => !p x).length), M[m]? = some (.ag (edtC false ((l.take j).filter fun x => !p x)[m]))
  jk : ∀ m, ((l.take j).filter fun x => !p x).length ≤ m → m < j → ∃ t, M[m]? = some t ∧ JkE t
  rest : ∀ m (h : m < l.length), j ≤ m → M[m]? = some (.ag (edtC false l[m]))
theorem filt_yes {l : List Edt} {p : Edt → Bool} {j : Nat} (h : j < l.length) (hp : p l[j] = true) : (l.take (j + 1)).filter (fun x => !p x) = (l.take j).filter (fun x => !p x) := by
  rw [List.take_succ_eq_append_getElem h, List.filter_append]; simp [hp]
abbrev jkX (x : Edt) : PV := .ag [.sc (.int .i64 x.tm), .sc (.int .i64 x.ct), .xx, .sc (.string x.it), .sc (.string x.tx)]
theorem jkX_ok (x : Edt) : JkE (jkX x) := ⟨x.tm, x.ct, .xx, x.it, x.tx, rfl, rfl⟩
theorem DInv.skip {l : List Edt} {p : Edt → Bool} {j : Nat} {M : List PV} (h : DInv l p j M) (hj : j < l.length) (hp : p l[j] = true) : DInv l p (j + 1) (M.set j (jkX l[j])) := by
  have hf := filt_yes hj hp
  refine ⟨hj, by rw [List.length_set]; exact h.len, by rw [hf]; have := h.lt; omega, ?_, ?_, ?_⟩
  · intro m hm
    rw [hf] at hm
    have := h.lt
    rw [List.getElem?_set_ne (by omega)]
    simp only [hf]
    exact h.kept m hm
  · intro m h1 h2
    rw [hf] at h1
    rcases Nat.lt_succ_iff_lt_or_eq.1 h2 with h3 | rfl
    · rw [List.getElem?_set_ne (by omega)]; exact h.jk m h1 h3
    · exact ⟨_, List.getElem?_set_self (by rw [h.len]; exact hj), jkX_ok _⟩
  · intro m hm h1
    rw [List.getElem?_set_ne (by omega)]; exact h.rest m hm (by omega)
theorem DInv.fin {l : List Edt} {p : Edt → Bool} {M : List PV} (h : DInv l p l.length M) (R : List PV) : (M.take ((l.filter fun x => !p x).length) ++ R).take ((l.filter fun x => !p x).length) = edts false (l.filter fun x => !p x) := by
  have hk := h.kept
  have hlt := h.lt
  simp only [List.take_length] at hk hlt
  apply List.ext_getElem?
  intro m
  rw [List.getElem?_take]
  split
  · rename_i hm
    rw [List.getElem?_append_left (by simp [h.len]; omega), List.getElem?_take, if_pos hm, hk m hm, els_get, List.getElem?_eq_getElem hm]; rfl
  · rename_i hm
    rw [List.getElem?_eq_none (by simp; omega)]
theorem idx_one {α : Type} (p : α → Bool) (xs : List α) : (idx p xs = -1 ∧ xs.any p = false) ∨ ∃ i, ∃ h : i < xs.length, idx p xs = (i : Int) ∧ p xs[i] = true ∧ (xs.take i).any p = false := by
  cases h : xs.findIdx? p with
  | none =>
    left
    have h2 : xs.any p = false := by rw [List.any_eq_false]; intro x hx; rw [List.findIdx?_eq_none_iff] at h; simpa using h x hx
    exact ⟨idx_none h2, h2⟩
  | some i =>
    right
    rw [List.findIdx?_eq_some_iff_getElem] at h
    obtain ⟨hi, h1, h2⟩ := h
    have h3 : (xs.take i).any p = false := by
      rw [List.any_eq_false]
      intro x hx
      obtain ⟨m, hm, rfl⟩ := List.getElem_of_mem hx
      rw [List.length_take] at hm
      rw [List.getElem_take]
      have := h2 m (by omega)
      simpa using this
    exact ⟨i, hi, idx_at hi h3 h1, h1, h3⟩
end Go.Proofs.Ytbofobjofngoeaa.EngS


set_option linter.unusedSimpArgs false
set_option linter.unusedVariables false
set_option maxHeartbeats 4000000
set_option maxRecDepth 100000
namespace Go.Proofs.Ytbofobjofngoeaa.EngS
open Go Go.Proofs Go.Eng Go.RowKit
theorem c_spec_l1Own (xs : List Int) (h : xs.length ≤ 1048576) : ACall Try.prog 123 [.v (.sl true 1 (ints xs))] [.x] [.v (.sl false 1 (ints xs))] := by
  have h3 : xs.length * 8 ≤ 140737488355328 := by omega
  have h4 : xs.length ≤ 4611686018427387904 := by omega
  refine ACall.of (N := 6) tok Try.func123 rfl rfl rfl (by simp) ?_
  repeat' (first | with_reducible refine OutOK.done ?_ | refine thenQ_n ?_ | refine thenQ_r ?_ | refine thenQ_e ?_ | refine AW.seq ?_ | refine AW.reg tok (by simp [*]; rfl) ?_ | refine AW.ifB (by simp [*]; rfl) ?_ | refine IfG.t ?_ | refine IfG.f ?_ | (refine IfG.p (fun hg => ?_) (fun hg => ?_) <;> (try (have hg' := hg; simp at hg'))) | (refine IfG.n (fun hg => ?_) (fun hg => ?_) <;> (try (have hg' := hg; simp at hg'))) | (refine OutOK.gateP (fun hg => ?_) (fun hg => ?_) <;> (try (have hg' := hg; simp at hg'))) | (refine OutOK.gateN (fun hg => ?_) (fun hg => ?_) <;> (try (have hg' := hg; simp at hg'))) | (refine IfG.g (fun hg => ?_) (fun hg => ?_) <;> (try (have hg' := hg; simp at hg'))) | (refine OutOK.gate (fun hg => ?_) (fun hg => ?_) <;> (try (have hg' := hg; simp at hg'))) | refine OutOK.run (by simp [*]; rfl) ?_ | refine AW.ret ?_ | refine AW.skip ?_ | refine AW.exit ?_ | refine fin_r ?_ | refine fin_n ?_ | refine AW.block ?_ | refine blockQ_n ?_ | refine blockQ_r ?_ | refine blockQ_e ?_ | refine blockQ_o rfl ?_)
  all_goals (try simp [*, Try.f123])
theorem c_spec_l22Copy (e : Edt) (h : e.ck.length ≤ 1048576) : ACall Try.prog 91 [edtD e] [.x] [edtO e] := by
  have co := c_spec_l1Own e.ck h
  refine ACall.of (N := 8) tok Try.func91 rfl rfl rfl (by simp) ?_
  repeat' (first | with_reducible refine OutOK.done ?_ | refine thenQ_n ?_ | refine thenQ_r ?_ | refine thenQ_e ?_ | refine AW.seq ?_ | refine AW.reg tok (by simp [*]; rfl) ?_ | refine AW.ifB (by simp [*]; rfl) ?_ | refine IfG.t ?_ | refine IfG.f ?_ | (refine IfG.p (fun hg => ?_) (fun hg => ?_) <;> (try (have hg' := hg; simp at hg'))) | (refine IfG.n (fun hg => ?_) (fun hg => ?_) <;> (try (have hg' := hg; simp at hg'))) | (refine OutOK.gateP (fun hg => ?_) (fun hg => ?_) <;> (try (have hg' := hg; simp at hg'))) | (refine OutOK.gateN (fun hg => ?_) (fun hg => ?_) <;> (try (have hg' := hg; simp at hg'))) | (refine IfG.g (fun hg => ?_) (fun hg => ?_) <;> (try (have hg' := hg; simp at hg'))) | (refine OutOK.gate (fun hg => ?_) (fun hg => ?_) <;> (try (have hg' := hg; simp at hg'))) | (refine OutOK.callF [] (by simp [*]; rfl) (by simp [*]; rfl) (by simp [*]; rfl) hb123 (by apply co <;> first | assumption | exact Hd.out (by assumption) | ((try (clear e0)); (try (clear e1)); (try (clear e2)); (try (clear e3)); (try (clear e4)); (try (clear e5)); (try (clear e6)); (try (clear e7)); (try (clear e8)); (try (clear e9)); (try (clear e10)); (try (clear e11)); omega)) ⟨by simp [*], by simp [*], by simp [*], by simp [*], by simp [*]⟩ (by simp [*]) (by simp [*]; rfl) ?_) | refine OutOK.run (by simp [*]; rfl) ?_ | refine AW.ret ?_ | refine AW.skip ?_ | refine AW.exit ?_ | refine fin_r ?_ | refine fin_n ?_ | refine AW.block ?_ | refine blockQ_n ?_ | refine blockQ_r ?_ | refine blockQ_e ?_ | refine blockQ_o rfl ?_)
  all_goals (try simp [*, Try.f91])
end Go.Proofs.Ytbofobjofngoeaa.EngS


/-
  DERIVED: THE SHELF's CONTRACTS AT THIS DUMP, IN PLAIN WORDS (tools/lay-plain.mjs out of 'TryShelfB.lean', which tools/lay-shelf.mjs wrote): THE SAME DECLARATIONS UNDER THE SAME NAMES: 'import', 'namespace', 'open', 'def', 'theorem' AND NOTHING ELSE: no command of the shelf's: FOR A HAND-IN. Each laying: the table of numbers ('.._ren') and one theorem, a field a fact of the dump's own or the kernel's comparison; each contract: ONE APPLICATION.
-/
namespace Go.Proofs
open Go.Shelf
def Try.sortE_ren : Go.Shelf.Ren := ⟨fun | 6 => 102 | 15 => 129 | 14 => 132 | 28 => 151 | 29 => 152 | 20 => 153 | 21 => 154 | 22 => 155 | 23 => 156 | 24 => 157 | 25 => 158 | 26 => 159 | 27 => 160 | 46 => 173 | 47 => 168 | 48 => 169 | 49 => 174 | 50 => 175 | 57 => 179 | n => n, fun | 22 => 40 | 24 => 58 | 25 => 96 | 3 => 3 | 39 => 135 | 0 => 0 | 53 => 150 | 55 => 116 | 4 => 4 | 46 => 144 | 45 => 143 | 50 => 44 | 5 => 5 | 9 => 9 | 66 => 159 | 70 => 163 | 76 => 169 | 77 => 170 | n => n, fun | n => n⟩
theorem Try.sortE : Go.Proofs.SlLaysF0.n6 Try.prog Try.sortE_ren := {
  mixed := by kernel_rfl
  f6 := ⟨Try.f102.name, by decide, Try.func102.trans (congrArg some (by kernel_rfl))⟩
  f14 := ⟨Try.f132.name, by decide, Try.func132.trans (congrArg some (by kernel_rfl))⟩
  f15 := Try.func129.trans (congrArg some (by kernel_rfl))
  f20 := ⟨Try.f153.name, by decide, Try.func153.trans (congrArg some (by kernel_rfl))⟩
  f21 := ⟨Try.f154.name, by decide, Try.func154.trans (congrArg some (by kernel_rfl))⟩
  f22 := ⟨Try.f155.name, by decide, Try.func155.trans (congrArg some (by kernel_rfl))⟩
  f23 := ⟨Try.f156.name, by decide, Try.func156.trans (congrArg some (by kernel_rfl))⟩
  f24 := ⟨Try.f157.name, by decide, Try.func157.trans (congrArg some (by kernel_rfl))⟩
  f25 := ⟨Try.f158.name, by decide, Try.func158.trans (congrArg some (by kernel_rfl))⟩
  f26 := ⟨Try.f159.name, by decide, Try.func159.trans (congrArg some (by kernel_rfl))⟩
  f27 := ⟨Try.f160.name, by decide, Try.func160.trans (congrArg some (by kernel_rfl))⟩
  f28 := Try.func151.trans (congrArg some (by kernel_rfl))
  f29 := Try.func152.trans (congrArg some (by kernel_rfl))
  f46 := ⟨Try.f173.name, by decide, Try.func173.trans (congrArg some (by kernel_rfl))⟩
  f47 := Try.func168.trans (congrArg some (by kernel_rfl))
  f48 := Try.func169.trans (congrArg some (by kernel_rfl))
  f49 := ⟨Try.f174.name, by decide, Try.func174.trans (congrArg some (by kernel_rfl))⟩
  f50 := ⟨Try.f175.name, by decide, Try.func175.trans (congrArg some (by kernel_rfl))⟩
  f57 := ⟨Try.f179.name, by decide, Try.func179.trans (congrArg some (by kernel_rfl))⟩
  t0 := Try.underlying0
  a0 := Try.isAgg0
  z0 := Try.sizeOf0
  v0 := Try.zeroValue0
  t3 := Try.underlying3
  a3 := Try.isAgg3
  z3 := Try.sizeOf3
  v3 := Try.zeroValue3
  t4 := Try.underlying4
  a4 := Try.isAgg4
  z4 := Try.sizeOf4
  v4 := Try.zeroValue4
  t5 := Try.underlying5
  a5 := Try.isAgg5
  z5 := Try.sizeOf5
  v5 := Try.zeroValue5
  t9 := Try.underlying9
  a9 := Try.isAgg9
  z9 := Try.sizeOf9
  v9 := Try.zeroValue9
  t22 := Try.underlying40
  a22 := Try.isAgg40
  z22 := Try.sizeOf40
  v22 := Try.zeroValue40
  t25 := Try.underlying96
  a25 := Try.isAgg96
  z25 := Try.sizeOf96
  v25 := Try.zeroValue96
  t39 := Try.underlying135
  a39 := Try.isAgg135
  z39 := Try.sizeOf135
  v39 := Try.zeroValue135
  t45 := Try.underlying143
  a45 := Try.isAgg143
  z45 := Try.sizeOf143
  v45 := Try.zeroValue143
  t46 := Try.underlying144
  a46 := Try.isAgg144
  z46 := Try.sizeOf144
  v46 := Try.zeroValue144
  t50 := Try.underlying44
  a50 := Try.isAgg44
  z50 := Try.sizeOf44
  v50 := Try.zeroValue44
  t53 := Try.underlying150
  a53 := Try.isAgg150
  z53 := Try.sizeOf150
  v53 := Try.zeroValue150
  t55 := Try.underlying116
  a55 := Try.isAgg116
  z55 := Try.sizeOf116
  v55 := Try.zeroValue116
  t66 := Try.underlying159
  a66 := Try.isAgg159
  z66 := Try.sizeOf159
  v66 := Try.zeroValue159
  t70 := Try.underlying163
  a70 := Try.isAgg163
  z70 := Try.sizeOf163
  v70 := Try.zeroValue163
  t76 := Try.underlying169
  a76 := Try.isAgg169
  z76 := Try.sizeOf169
  v76 := Try.zeroValue169
  t77 := Try.underlying170
  a77 := Try.isAgg170
  z77 := Try.sizeOf170
  v77 := Try.zeroValue170 }
end Go.Proofs

set_option linter.all false
namespace Go.Eng
open Go Go.Proofs Go.Shelf Go.RowKit
variable {P : Program} {ρ : Ren}
theorem GW.cell {P : Program} {w : World} {Z : Nat → Prop} (h : GW P w Z) {a : Nat} (hf : ∀ w : World, w.ShapedOpen P → ∃ m : Int, w.cell? ⟨a, 0, none⟩ = some (.int .i64 m)) : ∃ m : Int, w.cell? ⟨a, 0, none⟩ = some (.int .i64 m) := by
  obtain ⟨W0, h0, h1⟩ := h
  obtain ⟨m, hm⟩ := hf W0 h0
  refine ⟨m, ?_⟩
  by_cases hb : a < W0.heap.size
  · have := (h1 a hb).2
    simp only [World.cell?] at hm ⊢
    rw [this]; exact hm
  · simp only [World.cell?] at hm
    rw [Array.getElem?_eq_none (by omega)] at hm
    simp at hm
end Go.Eng

set_option linter.all false
namespace Go.Eng
open Go Go.Proofs Go.Shelf Go.RowKit Go.Sort
variable {P : Program} {ρ : Ren} {β : Type}
structure Elt (β : Type) where
  x : β
  vs : List Value
  own : Nat → Prop
def EltOK (w : World) (Z : Nat → Prop) (c : β → List PV) (k : Nat) (S : Nat → Prop) (t : Elt β) : Prop := RVs w Z (c t.x) t.vs t.own ∧ (c t.x).length = k ∧ ∀ b, t.own b → S b
def Apart (a b : Elt β) : Prop := ∀ q, a.own q → b.own q → False
theorem RE_elts {w : World} {Z : Nat → Prop} {b k : Nat} (c : β → List PV) (hc : ∀ x, PV.coks (c x) = true) : ∀ (xs : List β) (o : Nat) (S : Nat → Prop), RE w Z (xs.map fun x => .ag (c x)) b o k S →
    ∃ ts : List (Elt β), ts.map Elt.x = xs ∧ (∀ t ∈ ts, EltOK w Z c k S t) ∧ ts.Pairwise Apart ∧ (∀ i t, ts[i]? = some t → ∀ j v, t.vs[j]? = some v → w.cell? ⟨b, o + i * k + j, none⟩ = some v)
  | [], o, S, _ => ⟨[], rfl, by simp, .nil, by simp⟩
  | x :: xs, o, S, h => by
    rw [List.map_cons, RE_cons] at h
    obtain ⟨S1, S2, hsep, ⟨hlen, hRC⟩, h2⟩ := h
    obtain ⟨vs, hv, hr⟩ := RC_vals (c x) o S1 hRC (hc x)
    obtain ⟨ts, e1, e2, e3, e4⟩ := RE_elts c hc xs (o + k) S2 h2
    refine ⟨⟨x, vs, S1⟩ :: ts, by simp [e1], ?_, ?_, ?_⟩
    · intro t ht
      rcases List.mem_cons.1 ht with rfl | ht
      · exact ⟨hr, hlen, hsep.1⟩
      · obtain ⟨a1, a2, a3⟩ := e2 t ht
        exact ⟨a1, a2, fun q hq => hsep.2.1 q (a3 q hq)⟩
    · exact List.pairwise_cons.2 ⟨fun t ht q h1 h2 => hsep.2.2 q h1 ((e2 t ht).2.2 q h2), e3⟩
    · intro i t hi j v hj
      cases i with
      | zero => simp at hi; subst hi; rw [Nat.zero_mul, Nat.add_zero]; exact hv j v hj
      | succ i => simp at hi; have := e4 i t hi j v hj; rwa [show o + k + i * k + j = o + (i + 1) * k + j by rw [Nat.add_mul]; omega] at this
theorem RE_of_elts {w : World} {Z : Nat → Prop} {b k : Nat} (c : β → List PV) : ∀ (ts : List (Elt β)) (o : Nat) (S : Nat → Prop), (∀ t ∈ ts, EltOK w Z c k S t) → ts.Pairwise Apart →
    (∀ i t, ts[i]? = some t → ∀ j v, t.vs[j]? = some v → w.cell? ⟨b, o + i * k + j, none⟩ = some v) → RE w Z ((ts.map Elt.x).map fun x => .ag (c x)) b o k S
  | [], o, S, _, _, _ => by rw [List.map_nil, List.map_nil, RE_nil]; trivial
  | t :: ts, o, S, h1, h2, h3 => by
    rw [List.map_cons, List.map_cons, RE_cons]
    obtain ⟨p1, p2⟩ := List.pairwise_cons.1 h2
    obtain ⟨a1, a2, a3⟩ := h1 t (by simp)
    refine ⟨t.own, fun q => ∃ u ∈ ts, u.own q, ⟨a3, fun q ⟨u, hu, hq⟩ => (h1 u (by simp [hu])).2.2 q hq, fun q hq ⟨u, hu, hq2⟩ => p1 u hu q hq hq2⟩, ⟨a2, ?_⟩, ?_⟩
    · exact RC_of_RVs (c t.x) t.vs o t.own a1 (fun j v hj => by have := h3 0 t (by simp) j v hj; rwa [Nat.zero_mul, Nat.add_zero] at this)
    · refine RE_of_elts c ts (o + k) _ (fun u hu => ?_) p2 (fun i u hi j v hj => ?_)
      · obtain ⟨b1, b2, b3⟩ := h1 u (by simp [hu])
        exact ⟨b1, b2, fun q hq => ⟨u, hu, hq⟩⟩
      · have := h3 (i + 1) u (by simpa using hi) j v hj
        rwa [show o + k + i * k + j = o + (i + 1) * k + j by rw [Nat.add_mul]; omega]
theorem RVs_frz {w : World} {Z Z' : Nat → Prop} : ∀ (cs : List PV) (vs : List Value) (S S' : Nat → Prop), (∀ b, Z b ∨ S b → Z' b) → RVs w Z cs vs S → RVs w Z' (PV.frzs cs) vs S'
  | [], vs, S, S', _, h => by simpa [PV.frzs, RVs] using h
  | c :: cs, vs, S, S', hz, h => by
    obtain ⟨v, vs', S1, S2, rfl, hsep, ho, h1, h2⟩ := h
    rw [PV.frzs]
    exact ⟨v, vs', fun _ => False, S', rfl, ⟨fun _ h => h.elim, fun _ h => h, fun _ h => h.elim⟩, ho, RV_frz c v S1 _ (fun b h => hz b (h.imp id (hsep.1 b))) h1, RVs_frz cs vs' S2 S' (fun b h => hz b (h.imp id (hsep.2.1 b))) h2⟩
theorem RVs_slots {w : World} {Z : Nat → Prop} : ∀ (cs : List PV) (vs : List Value) (S : Nat → Prop), RVs w Z cs vs S → SlotRs w Z cs vs S ∧ ∀ c ∈ cs, c.isAg = false
  | [], vs, S, h => ⟨h, by simp⟩
  | c :: cs, vs, S, h => by
    obtain ⟨v, vs', S1, S2, rfl, hsep, ho, h1, h2⟩ := h
    obtain ⟨g1, g2⟩ := RVs_slots cs vs' S2 h2
    have hag : c.isAg = false := by
      cases c with
      | ag => rw [RV_ag] at h1; exact h1.elim
      | _ => rfl
    refine ⟨⟨v, vs', S1, S2, rfl, hsep, ?_, g1⟩, ?_⟩
    · cases c with
      | ag => rw [RV_ag] at h1; exact h1.elim
      | _ => exact h1
    · intro d hd
      rcases List.mem_cons.1 hd with rfl | hd
      · exact hag
      · exact g2 d hd
theorem sw_other {α : Type} [Inhabited α] (enc : α → List Value) (k : Nat) (w : World) (blk m : Nat) (dk : Array α) (os : Array Obj) (q : Nat) (h : q ≠ blk) (hq : q < w.heap.size) : (sortWorldK enc k w blk 0 m dk os).heap[q]? = w.heap[q]? := by
  simp only [sortWorldK, putRowK, putRow, mapBlock, grow, Sort.ahead]
  rw [Array.getElem?_append_left (by simpa using hq), Array.getElem?_modify, if_neg (Ne.symm h)]
theorem sw_size {α : Type} [Inhabited α] (enc : α → List Value) (k : Nat) (w : World) (blk m : Nat) (dk : Array α) (os : Array Obj) : (sortWorldK enc k w blk 0 m dk os).heap.size = w.heap.size + os.size := by
  simp [sortWorldK, putRowK, putRow, mapBlock, grow, Sort.ahead]
theorem sw_blk {α : Type} [Inhabited α] (enc : α → List Value) (k : Nat) (w : World) (blk m : Nat) (dk : Array α) (os : Array Obj) {cur : Array Value} {ty : TypeId} {fr : Nat × Nat} (h : w.heap[blk]? = some (.cells cur ty fr)) :
    ∃ cur', (sortWorldK enc k w blk 0 m dk os).heap[blk]? = some (.cells cur' ty fr) ∧ cur'.size = cur.size := by
  have hb : blk < w.heap.size := by
    refine Classical.byContradiction fun hn => ?_
    rw [Array.getElem?_eq_none (by omega)] at h
    cases h
  refine ⟨putCells id 0 (flatK enc k dk) cur, ?_, by simp [putCells]⟩
  simp only [sortWorldK, putRowK, putRow, mapBlock, grow, Sort.ahead]
  rw [Array.getElem?_append_left (by simpa using hb), Array.getElem?_modify, if_pos rfl, h]
  rfl
theorem world_grow {w w' : World} (h1 : w'.os = w.os) (h2 : TD w w') (h3 : w'.output = w.output) (h4 : w.heap.size ≤ w'.heap.size) (h5 : ∀ b, b < w.heap.size → w'.heap[b]? = w.heap[b]?) : ∃ q os', w' = grow (w.drewN q) os' := by
  refine ⟨w'.drawn - w.drawn, w'.heap.extract w.heap.size w'.heap.size, ?_⟩
  obtain ⟨hp, tp, dr, o, ou⟩ := w'
  obtain ⟨hp0, tp0, dr0, o0, ou0⟩ := w
  obtain ⟨t1, t2⟩ := h2
  simp only at h1 h3 h4 h5 t1 t2
  subst h1 h3 t1
  simp only [grow, World.drewN, World.mk.injEq, and_true]
  refine ⟨?_, trivial, by omega⟩
  apply Array.ext_getElem?
  intro i
  by_cases hi : i < hp0.size
  · rw [Array.getElem?_append_left hi, h5 i hi]
  · rw [Array.getElem?_append_right (by omega), Array.getElem?_extract]
    by_cases h2 : i < hp.size
    · rw [if_pos (by omega), show hp0.size + (i - hp0.size) = i by omega]
    · rw [if_neg (by omega), Array.getElem?_eq_none (by omega)]
end Go.Eng

set_option linter.all false
namespace Go.Eng
open Go Go.Proofs Go.Shelf Go.RowKit Go.Sort
variable {P : Program} {ρ : Ren} {β : Type}
theorem sort_call (L : SlLaysF0.n6 P ρ) (k : Nat) (aE : ∀ w, (isAgg (ρ.t 24)).run P w = .ok true w) (zE : ∀ w, (Go.sizeOf (ρ.t 24)).run P w = .ok k w) (c cz : β → List PV) (hc : ∀ x, PV.coks (c x) = true) (hfz : ∀ x, PV.frzs (c x) = cz x)
    (key : β → β → Int) (hO : SWO (Go.Proofs.ltOf key)) (g : Nat) (eg : ∀ args w, (callFunc g args).run P w = .ok (.enter g args) w) (xs : List β) (hsz : xs.length < 4611686018427387904)
    (hcmp : ∀ x ∈ xs, ∀ y ∈ xs, ACall P g [.g (cz x), .g (cz y)] [.x, .x] [.v (.sc (.int .i64 (key x y)))]) :
    ACallX P (ρ.f 6) [.v (.sl false k (xs.map fun x => .ag (c x))), .f g []] (fun l : List β => l.Perm xs ∧ l.Pairwise (fun a b => ¬ key b a < 0)) (fun l => [.v (.sl false k (l.map fun x => .ag (c x))), .x]) (fun _ => []) := by
  intro w Z S vals hg hd hlt hSZ
  obtain ⟨v1, vs, S1, S2, rfl, sep1, h1, v2, vs2, S3, S4, rfl, sep2, ⟨arr, rfl, harr⟩, rfl⟩ := hd
  obtain rfl : arr = #[] := by
    have : arr.toList = [] := harr
    exact Array.toList_eq_nil_iff.1 this
  have h0 : DR w Z (.v (.sl false k (xs.map fun x => .ag (c x)))) v1 S1 := h1
  simp only [DR] at h1
  rw [RV_ow] at h1
  -- no element
  have none_case : ∀ (p : Option Addr) (cap : Nat), xs = [] → v1 = .slice p 0 cap → Calls P (ρ.f 6) [v1, .func (.func g) #[] #[]].toArray w fun e w' => ∃ x : List β, (x.Perm xs ∧ x.Pairwise (fun a b => ¬ key b a < 0)) ∧ ∃ rvs S' Sr, e = .returned (resOf rvs) ∧ w'.os = w.os ∧ TD w w' ∧ w'.output = w.output ∧ w.heap.size ≤ w'.heap.size ∧
        (∀ b, b < w.heap.size → ¬ S b → w'.heap[b]? = w.heap[b]?) ∧ (∀ b, S' b ∨ Sr b → S b ∨ (w.heap.size ≤ b ∧ b < w'.heap.size)) ∧ (∀ b, S' b → Sr b → False) ∧
        DRs w' Z [.v (.sl false k (x.map fun x => .ag (c x))), .x] [v1, .func (.func g) #[] #[]] S' ∧ DRs w' Z [] rvs Sr := by
    intro p cap hx hv
    subst hx
    subst hv
    refine (AnyF.slices_SortFunc_none L p cap _ w).mono ?_
    rintro e w' ⟨rfl, rfl⟩
    refine ⟨[], ⟨.refl _, .nil⟩, [], S, fun _ => False, rfl, rfl, TD.refl, rfl, Nat.le_refl _, fun _ _ _ => rfl, fun b h => by simpa using Or.inl (h.resolve_right id), fun _ _ h => h, ?_, rfl⟩
    exact ⟨_, _, S1, S2, rfl, sep1, h0, _, _, S3, S4, rfl, sep2, trivial, rfl⟩
  rcases h1 with ⟨rfl, hl⟩ | ⟨b, cap, cur, ty, rfl, hcap, hb, hheap, hcs, hRE⟩
  · exact none_case none 0 (List.length_eq_zero_iff.1 (by simpa using hl)) rfl
  by_cases hx : xs = []
  · exact none_case (some ⟨b, 0, none⟩) cap hx (by rw [hx]; rfl)
  clear none_case
  obtain ⟨ts, e1, e2, e3, e4⟩ := RE_elts c hc xs 0 _ hRE
  have hbl : b < w.heap.size := hlt b (.inr (sep1.1 b hb))
  have hZb : ∀ q, Z q → q ≠ b := fun q hq e => hSZ b (sep1.1 b hb) (e ▸ hq)
  obtain ⟨t0, ht0⟩ : ∃ t0, t0 ∈ ts := by
    cases ts with
    | nil => exact (hx e1.symm).elim
    | cons t r => exact ⟨t, by simp⟩
  let α := { t : Elt β // t ∈ ts }
  letI : Inhabited α := ⟨⟨t0, ht0⟩⟩
  let enc : α → List Value := fun t => t.1.vs
  let d : Array α := ts.attach.toArray
  have hdl : d.toList = ts.attach := rfl
  have hds : d.size = xs.length := by rw [← e1, List.length_map]; exact List.length_attach
  have hk : ∀ x : α, (enc x).length = k := fun t => by
    obtain ⟨a1, a2, a3⟩ := e2 t.1 t.2
    exact (RVs_length _ _ _ a1).trans a2
  have ho1 : ∀ x : α, ∀ v ∈ enc x, v.oneCell' = true := fun t => RVs_one _ _ _ (e2 t.1 t.2).1
  have hxm : ∀ t : α, t.1.x ∈ xs := fun t => by rw [← e1]; exact List.mem_map.2 ⟨t.1, t.2, rfl⟩
  let cf : α → α → Int := fun s t => key s.1.x t.1.x
  have hO' : SWO (Go.Proofs.ltOf cf) := ⟨fun s => hO.irrefl _, fun s t u => hO.trans _ _ _, fun s t u => hO.ntrans _ _ _⟩
  have hdt : ∀ i (hi : i < d.size), d[i]! = d[i] := fun i hi => getElem!_pos d i hi
  have hdi : ∀ i (hi : i < d.size), ts[i]? = some (d[i]!).1 := by
    intro i hi
    rw [hdt i hi]
    have hi' : i < ts.length := by
      have h := hi
      rw [hds, ← e1, List.length_map] at h
      exact h
    rw [List.getElem?_eq_getElem hi']
    have h3 : (d[i]).1 = ts[i] := by
      show ((ts.attach.toArray)[i]).1 = _
      simp only [List.getElem_toArray, List.getElem_attach]
    rw [h3]
  have hfr : ∀ o, w.frozen? ⟨b, o, none⟩ = false := by
    intro o
    simp [World.frozen?, hheap]
  have hH : HoldsK enc k w b 0 d := by
    intro j hj
    rw [size_flatK] at hj
    have hk0 : 0 < k := by rcases Nat.eq_zero_or_pos k with h | h
                           · subst h; simp at hj
                           · exact h
    have hq : j / k < d.size := Nat.div_lt_of_lt_mul (by rwa [Nat.mul_comm])
    have hm : j % k < k := Nat.mod_lt _ hk0
    refine ⟨?_, hfr _⟩
    rw [get_flatK _ _ _ _ hj]
    have hvl : j % k < (enc d[j / k]!).length := by rw [hk]; exact hm
    have := e4 (j / k) _ (hdi _ hq) (j % k) _ (List.getElem?_eq_getElem hvl)
    rw [show 0 + j / k * k + j % k = 0 + j by have := Nat.div_add_mod j k; rw [Nat.mul_comm] at this; omega] at this
    rw [this, getElem!_pos (enc d[j / k]!) (j % k) hvl]
    rfl
  have hS1lt : ∀ q, S1 q → q < w.heap.size := fun q hq => hlt q (.inr (sep1.1 q hq))
  have hZlt : ∀ q, Z q → q < w.heap.size := fun q hq => hlt q (.inl hq)
  -- the comparison
  have hC : CmpLays P g #[] enc k cf b 0 d.size w := by
    intro m os dk hdk x y
    generalize hW : sortWorldK enc k w b 0 m dk os = W
    have hother : ∀ q, q ≠ b → q < w.heap.size → W.heap[q]? = w.heap[q]? := fun q h1 h2 => by rw [← hW]; exact sw_other enc k w b m dk os q h1 h2
    have hWs : W.heap.size = w.heap.size + os.size := by rw [← hW]; exact sw_size enc k w b m dk os
    have hZ' : GW P W (fun q => Z q ∨ (S1 q ∧ q ≠ b)) := hg.agr (fun q h => .inl h) (fun q hq => hother q (hZb q hq) (hZlt q hq))
    have hin : ∀ t : α, DR W (fun q => Z q ∨ (S1 q ∧ q ≠ b)) (.g (cz t.1.x)) (.agg (enc t).toArray) (fun _ => False) := by
      intro t
      obtain ⟨a1, a2, a3⟩ := e2 t.1 t.2
      have r1 : RVs W Z (c t.1.x) t.1.vs t.1.own := RVs_congr (fun q hq => hother q (hZb q hq) (hZlt q hq)) _ _ _ _ (fun q hq => hother q (a3 q hq).2 (hS1lt q (a3 q hq).1)) (fun _ h => h) a1
      have r2 := RVs_frz (Z' := fun q => Z q ∨ (S1 q ∧ q ≠ b)) _ _ _ (fun _ => False) (fun q h => h.imp id (a3 q)) r1
      rw [hfz] at r2
      obtain ⟨g1, g2⟩ := RVs_slots _ _ _ r2
      exact ⟨_, rfl, g1, g2, fun u hu => ho1 t u (by simpa using hu)⟩
    refine (hcmp _ (hxm x) _ (hxm y) W (fun q => Z q ∨ (S1 q ∧ q ≠ b)) (fun _ => False) [.agg (enc x).toArray, .agg (enc y).toArray] hZ' ⟨_, _, fun _ => False, fun _ => False, rfl, ⟨fun _ h => h, fun _ h => h, fun _ h => h.elim⟩, hin x, _, _, fun _ => False, fun _ => False, rfl, ⟨fun _ h => h, fun _ h => h, fun _ h => h.elim⟩, hin y, rfl⟩ ?_ (fun _ h => h.elim)).mono ?_
    · rintro q (h | h)
      · rw [hWs]
        rcases h with h | h
        · have := hZlt q h; omega
        · have := hS1lt q h.1; omega
      · exact h.elim
    · rintro e w' ⟨rvs, S', Sr, rfl, p1, p2, p3, p4, p5, -, -, -, u, us, T1, T2, rfl, -, hu, rfl⟩
      simp only [DR, RV_sc] at hu
      subst hu
      exact ⟨rfl, world_grow p1 p2 p3 p4 (fun q hq => p5 q hq (fun h => h))⟩
  have key2 := AnyQ.slices_SortFunc L k aE zE enc hk ho1 cf hO' g #[] b 0 cap d w eg hC hH hbl (by rw [hds]; exact hsz)
  have hlen : (xs.map fun x => PV.ag (c x)).length = d.size := by rw [hds, List.length_map]
  rw [hlen]
  refine Calls.mono key2 ?_
  rintro e w' ⟨rfl, d', n, os, ⟨hp1, hp2, hp3⟩, hs, rfl⟩
  have hd' : d'.extract 0 d.size = d' := by rw [← hp1]; simp
  have hd0 : d.extract 0 d.size = d := by simp
  rw [hd', hd0] at hp3
  obtain ⟨us, hus⟩ : ∃ us : List (Elt β), us = d'.toList.map (·.1) := ⟨_, rfl⟩
  have hper : us.Perm ts := by
    rw [hus]
    have := hp3.map (·.1)
    rw [hdl] at this
    exact this.trans (by rw [show (ts.attach.map fun a => a.1) = ts from List.attach_map_subtype_val ts])
  have hul : us.length = d.size := by rw [hus, List.length_map, Array.length_toList, hp1]
  have hui : ∀ i (hi : i < d'.size), us[i]? = some (d'[i]!).1 := by
    intro i hi
    rw [hus, List.getElem?_map, getElem!_pos d' i hi, List.getElem?_eq_getElem (by simpa using hi)]
    simp
  refine ⟨us.map Elt.x, ⟨by rw [← e1]; exact hper.map _, ?_⟩, [], S, fun _ => False, rfl, rfl, ⟨rfl, Nat.le_add_right _ _⟩, rfl, by rw [sw_size]; omega, ?_, fun q h => .inl (h.resolve_right id), fun _ _ h => h, ?_, rfl⟩
  · rw [List.pairwise_iff_getElem]
    intro i j hi hj hij
    have hi2 : i < d'.size := by rw [hp1, ← hul]; simpa using hi
    have hj2 : j < d'.size := by rw [hp1, ← hul]; simpa using hj
    have := hs i j (Nat.zero_le _) hij (by omega)
    simp only [Go.Proofs.ltOf, decide_eq_false_iff_not, cf] at this
    have a1 := hui i hi2
    have a2 := hui j hj2
    rw [List.getElem?_eq_some_iff] at a1 a2
    obtain ⟨_, a1⟩ := a1
    obtain ⟨_, a2⟩ := a2
    simp only [List.getElem_map, a1, a2]
    exact this
  · intro q hq hS
    exact sw_other enc k w b n d' os q (fun e => hS (e ▸ sep1.1 b hb)) hq
  · obtain ⟨cur', hcur, hcs'⟩ := sw_blk enc k w b n d' os hheap
    refine ⟨_, _, S1, S2, rfl, sep1, ?_, _, _, S3, S4, rfl, sep2, trivial, rfl⟩
    simp only [DR]
    rw [RV_ow]
    have hl2 : ((us.map Elt.x).map fun x => PV.ag (c x)).length = d.size := by rw [List.length_map, List.length_map, hul]
    refine .inr ⟨b, cap, cur', ty, by rw [hl2], by rw [hl2, ← hlen]; exact hcap, hb, hcur, by rw [hcs']; exact hcs, ?_⟩
    have hH' : HoldsK enc k (sortWorldK enc k w b 0 n d' os) b 0 d' := by
      unfold sortWorldK
      refine holdsK_grow enc k _ os b 0 d' ?_ ?_
      · simp [putRowK, putRow, mapBlock, Sort.ahead]; exact hbl
      · exact holdsK_putRowK enc k _ b 0 d d' (holdsK_ahead enc k w n b 0 d hH) hp1
    refine RE_of_elts c us 0 _ (fun t ht => ?_) (hper.symm.pairwise e3 (fun h q h1 h2 => h q h2 h1)) ?_
    · obtain ⟨a1, a2, a3⟩ := e2 t (hper.mem_iff.1 ht)
      exact ⟨RVs_congr (fun q hq => sw_other enc k w b n d' os q (hZb q hq) (hZlt q hq)) _ _ _ _ (fun q hq => sw_other enc k w b n d' os q (a3 q hq).2 (hS1lt q (a3 q hq).1)) (fun _ h => h) a1, a2, a3⟩
    · intro i t hi j v hj
      have hi2 : i < d'.size := by
        rw [hp1, ← hul]
        exact (List.getElem?_eq_some_iff.1 hi).1
      have h1 := hui i hi2
      rw [hi, Option.some.injEq] at h1
      have hjk : j < k := by
        have := (List.getElem?_eq_some_iff.1 hj).1
        rw [h1] at this
        rwa [show (d'[i]!).1.vs.length = k from hk _] at this
      have h2 := (HoldsK.cell hH' hi2 hjk).1
      rw [h2, ← hj, h1]
      have hjl : j < (enc d'[i]!).length := by rw [hk]; exact hjk
      rw [getElem!_pos (enc d'[i]!) j hjl]
      exact (List.getElem?_eq_getElem hjl).symm
end Go.Eng

set_option linter.unusedSimpArgs false
set_option linter.unusedVariables false
set_option maxHeartbeats 4000000
set_option maxRecDepth 100000
namespace Go.Proofs.Ytbofobjofngoeaa.EngS
open Go Go.Proofs Go.Eng Go.RowKit
theorem cmpE_lt (a b : Edt) : cmpE a b < 0 ↔ a.tm < b.tm ∨ (a.tm = b.tm ∧ a.ct < b.ct) := by
  simp only [cmpE, cmpI]
  repeat' split
  all_goals omega
theorem cmpE_swo : Go.Sort.SWO (Go.Proofs.ltOf cmpE) := by
  refine ⟨fun x => ?_, fun x y z h1 h2 => ?_, fun x y z h1 h2 => ?_⟩
  · have := cmpE_lt x x
    simp only [Go.Proofs.ltOf, decide_eq_false_iff_not]
    omega
  · simp only [Go.Proofs.ltOf, decide_eq_true_eq] at *
    rw [cmpE_lt] at *
    omega
  · simp only [Go.Proofs.ltOf, decide_eq_false_iff_not] at *
    rw [cmpE_lt] at *
    omega
theorem x_SortFunc_edt (l : List Edt) (h : l.length < 4611686018427387904) :
    ACallX Try.prog 102 [.v (.sl false 5 (edts false l)), .f 76 []] (fun l' : List Edt => l'.Perm l ∧ l'.Pairwise (fun a b => ¬ cmpE b a < 0)) (fun l' => [.v (.sl false 5 (edts false l')), .x]) (fun _ => []) :=
  sort_call Try.sortE 5 Try.isAgg58 Try.sizeOf58 (edtC false) (edtC true) (fun x => by simp [PV.coks, PV.cok, Value.oneCell']) (fun x => by simp [PV.frzs, PV.frz]) cmpE cmpE_swo 76 (fun args w => run_callFunc (by simp) w) l h
    (fun x _ y _ => c_impl_compareEdits x y)
theorem sorted_same {l m : List Edt} (hp : l.Perm m) (h1 : l.Pairwise (fun a b => ¬ cmpE b a < 0)) (h2 : m.Pairwise (fun a b => ¬ cmpE b a < 0)) (hd : ∀ a ∈ m, ∀ b ∈ m, ¬ cmpE a b < 0 → ¬ cmpE b a < 0 → a = b) : l = m := by
  refine List.Perm.eq_of_pairwise (le := fun a b => ¬ cmpE b a < 0) ?_ h1 h2 hp
  intro a b ha hb h3 h4
  exact hd a (hp.mem_iff.1 ha) b hb h4 h3
end Go.Proofs.Ytbofobjofngoeaa.EngS


set_option linter.unusedSimpArgs false
set_option linter.unusedVariables false
set_option maxHeartbeats 4000000
set_option maxRecDepth 100000
namespace Go.Proofs.Ytbofobjofngoeaa.EngS
open Go Go.Proofs Go.Eng Go.RowKit
def befE (e a : Edt) : Bool := decide (a.tm < e.tm ∨ (a.tm = e.tm ∧ a.ct < e.ct))
theorem befE_cmp (e a : Edt) : befE e a = decide (cmpE a e < 0) := by
  rw [befE, decide_eq_decide, cmpE_lt]
def putL (l : List Edt) (e : Edt) : List Edt := l.takeWhile (befE e) ++ e :: l.dropWhile (befE e)
theorem putL_at {l : List Edt} {e : Edt} {i : Nat} (hi : i ≤ l.length) (hb : ∀ j (hj : j < l.length), j < i → befE e l[j] = true) (hs : ∀ (h : i < l.length), befE e l[i] = false) : putL l e = l.take i ++ e :: l.drop i := by
  have h1 : l.takeWhile (befE e) = l.take i ∧ l.dropWhile (befE e) = l.drop i := by
    induction l generalizing i with
    | nil => simp
    | cons a r ih =>
      cases i with
      | zero => have := hs (by simp); simp at this; simp [this]
      | succ i =>
        have h0 := hb 0 (by simp) (by simp)
        simp at h0
        have := ih (i := i) (by simpa using hi) (fun j hj h => by have := hb (j + 1) (by simpa using hj) (by omega); simpa using this) (fun h => by have := hs (by simpa using h); simpa using this)
        simp [h0, this.1, this.2]
  rw [putL, h1.1, h1.2]
theorem putL_len (l : List Edt) (e : Edt) : (putL l e).length = l.length + 1 := by
  have := congrArg List.length (List.takeWhile_append_dropWhile (p := befE e) (l := l))
  simp only [List.length_append] at this
  simp [putL]; omega
theorem putL_perm (l : List Edt) (e : Edt) : (putL l e).Perm (e :: l) := by
  rw [putL]
  refine List.perm_middle.trans (.cons _ ?_)
  rw [List.takeWhile_append_dropWhile]
theorem second_sn {l : List Edt} {e : Edt} {i : Nat} (hi : i ≤ l.length) (h : l.length ≤ 100) (hb : ∀ j (hj : j < l.length), j < i → befE e l[j] = true) (hs : ∀ (h : i < l.length), befE e l[i] = false) :
    ∃ sn : Nat → List Edt, Hd (sn i = l.take i ++ [e]) ∧ Hd (∀ j, i ≤ j → (hj : j < l.length) → sn (j + 1) = sn j ++ [l[j]]) ∧ Hd (∀ j, i ≤ j → (sn j).length ≤ 101) ∧ Hd (sn l.length = putL l e) := by
  refine ⟨fun j => l.take i ++ e :: (l.take j).drop i, ?_, fun j hij hj => ?_, fun j hij => ?_, ?_⟩
  · simp [Hd]
  · simp only [List.take_succ_eq_append_getElem hj]
    rw [List.drop_append_of_le_length (by simp; omega)]
    simp
  · simp; omega
  · show l.take i ++ e :: (l.take l.length).drop i = putL l e
    rw [putL_at hi hb hs, List.take_length]
theorem c_spec_l22Put (l : List Edt) (e : Edt) (h : l.length ≤ 100) (hl : ∀ x ∈ l, x.ck.length ≤ 1048576) (he : e.ck.length ≤ 1048576) : ACall Try.prog 100 [.v (.sl true 5 (edts true l)), edtD e] [.x, .x] [.v (.sl false 5 (edts false (putL l e)))] := by
  have hl' : Hd _ := hl
  have ce := c_spec_l22Copy e he
  obtain ⟨T, C, K, I, X⟩ := e
  clear hl
  obtain ⟨R, hR⟩ : ∃ R, Hd (putL l ⟨T, C, K, I, X⟩ = R) := ⟨_, rfl⟩
  rw [hR.out]
  refine ACall.of (N := 72) tok Try.func100 rfl rfl rfl (by simp) ?_
  repeat' (first | with_reducible refine OutOK.done ?_ | refine thenQ_n ?_ | refine thenQ_r ?_ | refine thenQ_e ?_ | refine AW.seq ?_ | refine AW.dreg tok mixed [11, 20, 29]  [(0, false), (1, false), (2, false), (3, false), (4, false), (5, false), (6, false), (7, false), (8, false), (10, false), (9, false), (11, true), (12, false), (13, false), (14, false), (15, false), (16, false), (17, false), (19, false), (18, false), (20, true), (21, false), (22, false), (23, false), (24, false), (25, false), (26, false), (28, false), (27, false), (29, true), (30, false), (31, false), (32, false), (33, false)] (by decide +kernel) rfl (by simp [*]; rfl) ?_ | refine AW.reg tok (by simp [*]; rfl) ?_ | refine AW.ifB (by simp [*]; rfl) ?_ | refine IfG.t ?_ | refine IfG.f ?_ | (refine IfG.p (fun hg => ?_) (fun hg => ?_) <;> (try (have hg' := hg; simp at hg'))) | (refine IfG.n (fun hg => ?_) (fun hg => ?_) <;> (try (have hg' := hg; simp at hg'))) | (refine OutOK.gateP (fun hg => ?_) (fun hg => ?_) <;> (try (have hg' := hg; simp at hg'))) | (refine OutOK.gateN (fun hg => ?_) (fun hg => ?_) <;> (try (have hg' := hg; simp at hg'))) | (refine IfG.g (fun hg => ?_) (fun hg => ?_) <;> (try (have hg' := hg; simp at hg'))) | (refine OutOK.gate (fun hg => ?_) (fun hg => ?_) <;> (try (have hg' := hg; simp at hg'))) | refine OutOK.run (by simp [*]; rfl) ?_ | refine AW.ret ?_ | refine AW.skip ?_ | refine AW.exit ?_ | refine fin_r ?_ | refine fin_n ?_ | refine AW.block ?_ | refine blockQ_n ?_ | refine blockQ_r ?_ | refine blockQ_e ?_ | refine blockQ_o rfl ?_)
  refine AW.loopS (α := Nat) (fun i => i ≤ l.length ∧ Hd (∀ j (hj : j < l.length), j < i → befE ⟨T, C, K, I, X⟩ l[j] = true)) (fun i => [(0, .c (.sl true 5 (edts true l))), (3, .pt 3000 [] 0), (5, .rf 51000 []), (6, .c (.sc (.int .i64 (i : Int))))])
    (fun i => [(51000, .sv (.sl false 5 (edts false (l.take i)))), (3000, .bx [.sc (.int .i64 T), .sc (.int .i64 C), .sl true 1 (ints K), .sc (.string I), .sc (.string X)])]) (fun i => l.length - i) 0 ⟨Nat.zero_le _, fun j hj h0 => by omega⟩ [(7000, 51000)] (by simp) ⟨by simp, by simp, by simp⟩ ?_
  rintro i ⟨hi, hb⟩
  have htl : (l.take i).length ≤ 100 := Nat.le_trans (List.length_take_le i l) (by omega)
  rcases Nat.lt_or_ge i l.length with hil | hil
  · have e1 : wrap64 ((i : Int) + 1) = ((i + 1 : Nat) : Int) := by rw [w64 (by omega) (by omega)]; omega
    have cy := c_spec_l22Copy l[i] (hl'.out _ (List.getElem_mem hil))
    have hts : Hd (l.take (i + 1) = l.take i ++ [l[i]]) := List.take_succ_eq_append_getElem hil
    obtain ⟨tm, ct2, ck, it, tx, hei⟩ : ∃ tm ct ck it tx, l[i] = ⟨tm, ct, ck, it, tx⟩ := ⟨_, _, _, _, _, rfl⟩
    have hei' : Hd (l[i] = ⟨tm, ct2, ck, it, tx⟩) := hei
    rw [hei] at cy hts
    by_cases hB : tm < T ∨ (tm = T ∧ ct2 < C)
    · have hB2 : Hd (∀ j (hj : j < l.length), j < i + 1 → befE ⟨T, C, K, I, X⟩ l[j] = true) := by
        intro j hj h2
        rcases Nat.lt_succ_iff_lt_or_eq.1 h2 with h3 | rfl
        · exact hb.out j hj h3
        · rw [hei'.out]; simpa [befE] using hB
      generalize l.take i = s1 at *
      have b1 : (s1.length + 1) * 72 ≤ 140737488355328 := by ((try (clear e0)); (try (clear e1)); (try (clear e2)); (try (clear e3)); (try (clear e4)); (try (clear e5)); (try (clear e6)); (try (clear e7)); (try (clear e8)); (try (clear e9)); (try (clear e10)); (try (clear e11)); omega)
      have b2 : s1.length + 1 ≤ 4611686018427387904 := by ((try (clear e0)); (try (clear e1)); (try (clear e2)); (try (clear e3)); (try (clear e4)); (try (clear e5)); (try (clear e6)); (try (clear e7)); (try (clear e8)); (try (clear e9)); (try (clear e10)); (try (clear e11)); omega)
      clear ce
      rcases Int.lt_or_le tm T with h1 | h1
      · clear hB
        repeat' (first | with_reducible refine OutOK.done ?_ | refine thenQ_n ?_ | refine thenQ_r ?_ | refine thenQ_e ?_ | refine AW.seq ?_ | refine AW.dreg tok mixed [11, 20, 29]  [(0, false), (1, false), (2, false), (3, false), (4, false), (5, false), (6, false), (7, false), (8, false), (10, false), (9, false), (11, true), (12, false), (13, false), (14, false), (15, false), (16, false), (17, false), (19, false), (18, false), (20, true), (21, false), (22, false), (23, false), (24, false), (25, false), (26, false), (28, false), (27, false), (29, true), (30, false), (31, false), (32, false), (33, false)] (by decide +kernel) rfl (by simp [*]; rfl) ?_ | refine AW.reg tok (by simp [*]; rfl) ?_ | refine AW.ifB (by simp [*]; rfl) ?_ | refine IfG.t ?_ | refine IfG.f ?_ | (refine IfG.p (fun hg => ?_) (fun hg => ?_) <;> (try (have hg' := hg; simp at hg'))) | (refine IfG.n (fun hg => ?_) (fun hg => ?_) <;> (try (have hg' := hg; simp at hg'))) | (refine OutOK.gateP (fun hg => ?_) (fun hg => ?_) <;> (try (have hg' := hg; simp at hg'))) | (refine OutOK.gateN (fun hg => ?_) (fun hg => ?_) <;> (try (have hg' := hg; simp at hg'))) | (refine IfG.g (fun hg => ?_) (fun hg => ?_) <;> (try (have hg' := hg; simp at hg'))) | (refine OutOK.gate (fun hg => ?_) (fun hg => ?_) <;> (try (have hg' := hg; simp at hg'))) | (refine OutOK.callF [] (by simp [*]; rfl) (by simp [*]; rfl) (by simp [*]; rfl) hb91 (by apply cy <;> first | assumption | exact Hd.out (by assumption) | ((try (clear e0)); (try (clear e1)); (try (clear e2)); (try (clear e3)); (try (clear e4)); (try (clear e5)); (try (clear e6)); (try (clear e7)); (try (clear e8)); (try (clear e9)); (try (clear e10)); (try (clear e11)); omega)) ⟨by simp [*], by simp [*], by simp [*], by simp [*], by simp [*]⟩ (by simp [*]) (by simp [*]; rfl) ?_) | refine OutOK.run (by simp [*]; rfl) ?_ | refine AW.ret ?_ | refine AW.skip ?_ | refine AW.exit ?_ | refine fin_r ?_ | refine fin_n ?_ | refine AW.block ?_ | refine blockQ_n ?_ | refine blockQ_r ?_ | refine blockQ_e ?_ | refine blockQ_o rfl ?_)
        all_goals exact ⟨i + 1, ⟨hil, hB2⟩, ⟨[], by simp, by simp, by simp [hts.out], by simp⟩, by ((try (clear e0)); (try (clear e1)); (try (clear e2)); (try (clear e3)); (try (clear e4)); (try (clear e5)); (try (clear e6)); (try (clear e7)); (try (clear e8)); (try (clear e9)); (try (clear e10)); (try (clear e11)); omega)⟩
      · obtain ⟨h2, h3⟩ : tm = T ∧ ct2 < C := hB.resolve_left (by omega)
        subst h2
        clear hB h1
        have h4 : ¬ tm < tm := by omega
        repeat' (first | with_reducible refine OutOK.done ?_ | refine thenQ_n ?_ | refine thenQ_r ?_ | refine thenQ_e ?_ | refine AW.seq ?_ | refine AW.dreg tok mixed [11, 20, 29]  [(0, false), (1, false), (2, false), (3, false), (4, false), (5, false), (6, false), (7, false), (8, false), (10, false), (9, false), (11, true), (12, false), (13, false), (14, false), (15, false), (16, false), (17, false), (19, false), (18, false), (20, true), (21, false), (22, false), (23, false), (24, false), (25, false), (26, false), (28, false), (27, false), (29, true), (30, false), (31, false), (32, false), (33, false)] (by decide +kernel) rfl (by simp [*]; rfl) ?_ | refine AW.reg tok (by simp [*]; rfl) ?_ | refine AW.ifB (by simp [*]; rfl) ?_ | refine IfG.t ?_ | refine IfG.f ?_ | (refine IfG.p (fun hg => ?_) (fun hg => ?_) <;> (try (have hg' := hg; simp at hg'))) | (refine IfG.n (fun hg => ?_) (fun hg => ?_) <;> (try (have hg' := hg; simp at hg'))) | (refine OutOK.gateP (fun hg => ?_) (fun hg => ?_) <;> (try (have hg' := hg; simp at hg'))) | (refine OutOK.gateN (fun hg => ?_) (fun hg => ?_) <;> (try (have hg' := hg; simp at hg'))) | (refine IfG.g (fun hg => ?_) (fun hg => ?_) <;> (try (have hg' := hg; simp at hg'))) | (refine OutOK.gate (fun hg => ?_) (fun hg => ?_) <;> (try (have hg' := hg; simp at hg'))) | (refine OutOK.callF [] (by simp [*]; rfl) (by simp [*]; rfl) (by simp [*]; rfl) hb91 (by apply cy <;> first | assumption | exact Hd.out (by assumption) | ((try (clear e0)); (try (clear e1)); (try (clear e2)); (try (clear e3)); (try (clear e4)); (try (clear e5)); (try (clear e6)); (try (clear e7)); (try (clear e8)); (try (clear e9)); (try (clear e10)); (try (clear e11)); omega)) ⟨by simp [*], by simp [*], by simp [*], by simp [*], by simp [*]⟩ (by simp [*]) (by simp [*]; rfl) ?_) | refine OutOK.run (by simp [*]; rfl) ?_ | refine AW.ret ?_ | refine AW.skip ?_ | refine AW.exit ?_ | refine fin_r ?_ | refine fin_n ?_ | refine AW.block ?_ | refine blockQ_n ?_ | refine blockQ_r ?_ | refine blockQ_e ?_ | refine blockQ_o rfl ?_)
        all_goals exact ⟨i + 1, ⟨hil, hB2⟩, ⟨[], by simp, by simp, by simp [hts.out], by simp⟩, by ((try (clear e0)); (try (clear e1)); (try (clear e2)); (try (clear e3)); (try (clear e4)); (try (clear e5)); (try (clear e6)); (try (clear e7)); (try (clear e8)); (try (clear e9)); (try (clear e10)); (try (clear e11)); omega)⟩
    · have HS : ∀ (h : i < l.length), befE ⟨T, C, K, I, X⟩ l[i] = false := fun _ => by rw [hei'.out]; simpa [befE] using hB
      obtain ⟨sn, hs0, hsn, hsl, hse⟩ : ∃ sn : Nat → List Edt, Hd (sn i = l.take i ++ [⟨T, C, K, I, X⟩]) ∧ Hd (∀ j, i ≤ j → (hj : j < l.length) → sn (j + 1) = sn j ++ [l[j]]) ∧ Hd (∀ j, i ≤ j → (sn j).length ≤ 101) ∧ Hd (sn l.length = putL l ⟨T, C, K, I, X⟩) := second_sn hi h hb.out HS
      rw [hR.out] at hse
      clear hR
      clear HS hts cy
      generalize l.take i = s1 at *
      have b3 : (s1.length + 1) * 72 ≤ 140737488355328 := by ((try (clear e0)); (try (clear e1)); (try (clear e2)); (try (clear e3)); (try (clear e4)); (try (clear e5)); (try (clear e6)); (try (clear e7)); (try (clear e8)); (try (clear e9)); (try (clear e10)); (try (clear e11)); omega)
      have b4 : s1.length + 1 ≤ 4611686018427387904 := by ((try (clear e0)); (try (clear e1)); (try (clear e2)); (try (clear e3)); (try (clear e4)); (try (clear e5)); (try (clear e6)); (try (clear e7)); (try (clear e8)); (try (clear e9)); (try (clear e10)); (try (clear e11)); omega)
      have h1 : ¬ tm < T := fun h => hB (.inl h)
      by_cases h2 : tm = T
      · subst h2
        have h3 : ¬ ct2 < C := fun h => hB (.inr ⟨rfl, h⟩)
        clear hB
        repeat' (first | with_reducible refine OutOK.done ?_ | refine thenQ_n ?_ | refine thenQ_r ?_ | refine thenQ_e ?_ | refine AW.seq ?_ | refine AW.dreg tok mixed [11, 20, 29]  [(0, false), (1, false), (2, false), (3, false), (4, false), (5, false), (6, false), (7, false), (8, false), (10, false), (9, false), (11, true), (12, false), (13, false), (14, false), (15, false), (16, false), (17, false), (19, false), (18, false), (20, true), (21, false), (22, false), (23, false), (24, false), (25, false), (26, false), (28, false), (27, false), (29, true), (30, false), (31, false), (32, false), (33, false)] (by decide +kernel) rfl (by simp [*]; rfl) ?_ | refine AW.reg tok (by simp [*]; rfl) ?_ | refine AW.ifB (by simp [*]; rfl) ?_ | refine IfG.t ?_ | refine IfG.f ?_ | (refine IfG.p (fun hg => ?_) (fun hg => ?_) <;> (try (have hg' := hg; simp at hg'))) | (refine IfG.n (fun hg => ?_) (fun hg => ?_) <;> (try (have hg' := hg; simp at hg'))) | (refine OutOK.gateP (fun hg => ?_) (fun hg => ?_) <;> (try (have hg' := hg; simp at hg'))) | (refine OutOK.gateN (fun hg => ?_) (fun hg => ?_) <;> (try (have hg' := hg; simp at hg'))) | (refine IfG.g (fun hg => ?_) (fun hg => ?_) <;> (try (have hg' := hg; simp at hg'))) | (refine OutOK.gate (fun hg => ?_) (fun hg => ?_) <;> (try (have hg' := hg; simp at hg'))) | (refine OutOK.callF [] (by simp [*]; rfl) (by simp [*]; rfl) (by simp [*]; rfl) hb91 (by apply ce <;> first | assumption | exact Hd.out (by assumption) | ((try (clear e0)); (try (clear e1)); (try (clear e2)); (try (clear e3)); (try (clear e4)); (try (clear e5)); (try (clear e6)); (try (clear e7)); (try (clear e8)); (try (clear e9)); (try (clear e10)); (try (clear e11)); omega)) ⟨by simp [*], by simp [*], by simp [*], by simp [*], by simp [*]⟩ (by simp [*]) (by simp [*]; rfl) ?_) | refine OutOK.run (by simp [*]; rfl) ?_ | refine AW.ret ?_ | refine AW.skip ?_ | refine AW.exit ?_ | refine fin_r ?_ | refine fin_n ?_ | refine AW.block ?_ | refine blockQ_n ?_ | refine blockQ_r ?_ | refine blockQ_e ?_ | refine blockQ_o rfl ?_)
        refine AW.loopS (α := Nat) (fun j => i ≤ j ∧ j ≤ l.length) (fun j => [(0, .c (.sl true 5 (edts true l))), (5, .rf 70000 []), (6, .c (.sc (.int .i64 (j : Int))))]) (fun j => [(70000, .sv (.sl false 5 (edts false (sn j))))]) (fun j => l.length - j) i ⟨Nat.le_refl _, hi⟩ [(56000, 70000)] (by simp) ⟨by simp, by simp [hs0.out], by simp⟩ ?_
        rintro j ⟨hij, hj⟩
        clear ce
        rcases Nat.lt_or_ge j l.length with hjl | hjl
        · have e3 : wrap64 ((j : Int) + 1) = ((j + 1 : Nat) : Int) := by rw [w64 (by omega) (by omega)]; omega
          have cy := c_spec_l22Copy l[j] (hl'.out _ (List.getElem_mem hjl))
          have hsj := hsn.out j hij hjl
          have hlj := hsl.out j hij
          generalize sn j = s1 at *
          replace hsj : Hd _ := hsj
          have b1 : (s1.length + 1) * 72 ≤ 140737488355328 := by ((try (clear e0)); (try (clear e1)); (try (clear e2)); (try (clear e3)); (try (clear e4)); (try (clear e5)); (try (clear e6)); (try (clear e7)); (try (clear e8)); (try (clear e9)); (try (clear e10)); (try (clear e11)); omega)
          have b2 : s1.length + 1 ≤ 4611686018427387904 := by ((try (clear e0)); (try (clear e1)); (try (clear e2)); (try (clear e3)); (try (clear e4)); (try (clear e5)); (try (clear e6)); (try (clear e7)); (try (clear e8)); (try (clear e9)); (try (clear e10)); (try (clear e11)); omega)
          obtain ⟨tm, ct2, ck, it, tx, hej⟩ : ∃ tm ct ck it tx, l[j] = ⟨tm, ct, ck, it, tx⟩ := ⟨_, _, _, _, _, rfl⟩
          rw [hej] at cy hsj
          repeat' (first | with_reducible refine OutOK.done ?_ | refine thenQ_n ?_ | refine thenQ_r ?_ | refine thenQ_e ?_ | refine AW.seq ?_ | refine AW.dreg tok mixed [11, 20, 29]  [(0, false), (1, false), (2, false), (3, false), (4, false), (5, false), (6, false), (7, false), (8, false), (10, false), (9, false), (11, true), (12, false), (13, false), (14, false), (15, false), (16, false), (17, false), (19, false), (18, false), (20, true), (21, false), (22, false), (23, false), (24, false), (25, false), (26, false), (28, false), (27, false), (29, true), (30, false), (31, false), (32, false), (33, false)] (by decide +kernel) rfl (by simp [*]; rfl) ?_ | refine AW.reg tok (by simp [*]; rfl) ?_ | refine AW.ifB (by simp [*]; rfl) ?_ | refine IfG.t ?_ | refine IfG.f ?_ | (refine IfG.p (fun hg => ?_) (fun hg => ?_) <;> (try (have hg' := hg; simp at hg'))) | (refine IfG.n (fun hg => ?_) (fun hg => ?_) <;> (try (have hg' := hg; simp at hg'))) | (refine OutOK.gateP (fun hg => ?_) (fun hg => ?_) <;> (try (have hg' := hg; simp at hg'))) | (refine OutOK.gateN (fun hg => ?_) (fun hg => ?_) <;> (try (have hg' := hg; simp at hg'))) | (refine IfG.g (fun hg => ?_) (fun hg => ?_) <;> (try (have hg' := hg; simp at hg'))) | (refine OutOK.gate (fun hg => ?_) (fun hg => ?_) <;> (try (have hg' := hg; simp at hg'))) | (refine OutOK.callF [] (by simp [*]; rfl) (by simp [*]; rfl) (by simp [*]; rfl) hb91 (by apply cy <;> first | assumption | exact Hd.out (by assumption) | ((try (clear e0)); (try (clear e1)); (try (clear e2)); (try (clear e3)); (try (clear e4)); (try (clear e5)); (try (clear e6)); (try (clear e7)); (try (clear e8)); (try (clear e9)); (try (clear e10)); (try (clear e11)); omega)) ⟨by simp [*], by simp [*], by simp [*], by simp [*], by simp [*]⟩ (by simp [*]) (by simp [*]; rfl) ?_) | refine OutOK.run (by simp [*]; rfl) ?_ | refine AW.ret ?_ | refine AW.skip ?_ | refine AW.exit ?_ | refine fin_r ?_ | refine fin_n ?_ | refine AW.block ?_ | refine blockQ_n ?_ | refine blockQ_r ?_ | refine blockQ_e ?_ | refine blockQ_o rfl ?_)
          exact ⟨j + 1, ⟨by clear e3; omega, hjl⟩, ⟨[], by simp, by simp, by simp [hsj.out], by simp⟩, by ((try (clear e0)); (try (clear e1)); (try (clear e2)); (try (clear e3)); (try (clear e4)); (try (clear e5)); (try (clear e6)); (try (clear e7)); (try (clear e8)); (try (clear e9)); (try (clear e10)); (try (clear e11)); omega)⟩
        · have hjj : j = l.length := by omega
          subst hjj
          rw [hse.out]
          repeat' (first | with_reducible refine OutOK.done ?_ | refine thenQ_n ?_ | refine thenQ_r ?_ | refine thenQ_e ?_ | refine AW.seq ?_ | refine AW.dreg tok mixed [11, 20, 29]  [(0, false), (1, false), (2, false), (3, false), (4, false), (5, false), (6, false), (7, false), (8, false), (10, false), (9, false), (11, true), (12, false), (13, false), (14, false), (15, false), (16, false), (17, false), (19, false), (18, false), (20, true), (21, false), (22, false), (23, false), (24, false), (25, false), (26, false), (28, false), (27, false), (29, true), (30, false), (31, false), (32, false), (33, false)] (by decide +kernel) rfl (by simp [*]; rfl) ?_ | refine AW.reg tok (by simp [*]; rfl) ?_ | refine AW.ifB (by simp [*]; rfl) ?_ | refine IfG.t ?_ | refine IfG.f ?_ | (refine IfG.p (fun hg => ?_) (fun hg => ?_) <;> (try (have hg' := hg; simp at hg'))) | (refine IfG.n (fun hg => ?_) (fun hg => ?_) <;> (try (have hg' := hg; simp at hg'))) | (refine OutOK.gateP (fun hg => ?_) (fun hg => ?_) <;> (try (have hg' := hg; simp at hg'))) | (refine OutOK.gateN (fun hg => ?_) (fun hg => ?_) <;> (try (have hg' := hg; simp at hg'))) | (refine IfG.g (fun hg => ?_) (fun hg => ?_) <;> (try (have hg' := hg; simp at hg'))) | (refine OutOK.gate (fun hg => ?_) (fun hg => ?_) <;> (try (have hg' := hg; simp at hg'))) | refine OutOK.run (by simp [*]; rfl) ?_ | refine AW.ret ?_ | refine AW.skip ?_ | refine AW.exit ?_ | refine fin_r ?_ | refine fin_n ?_ | refine AW.block ?_ | refine blockQ_n ?_ | refine blockQ_r ?_ | refine blockQ_e ?_ | refine blockQ_o rfl ?_)
          simp [Try.f100]
      · clear hB
        repeat' (first | with_reducible refine OutOK.done ?_ | refine thenQ_n ?_ | refine thenQ_r ?_ | refine thenQ_e ?_ | refine AW.seq ?_ | refine AW.dreg tok mixed [11, 20, 29]  [(0, false), (1, false), (2, false), (3, false), (4, false), (5, false), (6, false), (7, false), (8, false), (10, false), (9, false), (11, true), (12, false), (13, false), (14, false), (15, false), (16, false), (17, false), (19, false), (18, false), (20, true), (21, false), (22, false), (23, false), (24, false), (25, false), (26, false), (28, false), (27, false), (29, true), (30, false), (31, false), (32, false), (33, false)] (by decide +kernel) rfl (by simp [*]; rfl) ?_ | refine AW.reg tok (by simp [*]; rfl) ?_ | refine AW.ifB (by simp [*]; rfl) ?_ | refine IfG.t ?_ | refine IfG.f ?_ | (refine IfG.p (fun hg => ?_) (fun hg => ?_) <;> (try (have hg' := hg; simp at hg'))) | (refine IfG.n (fun hg => ?_) (fun hg => ?_) <;> (try (have hg' := hg; simp at hg'))) | (refine OutOK.gateP (fun hg => ?_) (fun hg => ?_) <;> (try (have hg' := hg; simp at hg'))) | (refine OutOK.gateN (fun hg => ?_) (fun hg => ?_) <;> (try (have hg' := hg; simp at hg'))) | (refine IfG.g (fun hg => ?_) (fun hg => ?_) <;> (try (have hg' := hg; simp at hg'))) | (refine OutOK.gate (fun hg => ?_) (fun hg => ?_) <;> (try (have hg' := hg; simp at hg'))) | (refine OutOK.callF [] (by simp [*]; rfl) (by simp [*]; rfl) (by simp [*]; rfl) hb91 (by apply ce <;> first | assumption | exact Hd.out (by assumption) | ((try (clear e0)); (try (clear e1)); (try (clear e2)); (try (clear e3)); (try (clear e4)); (try (clear e5)); (try (clear e6)); (try (clear e7)); (try (clear e8)); (try (clear e9)); (try (clear e10)); (try (clear e11)); omega)) ⟨by simp [*], by simp [*], by simp [*], by simp [*], by simp [*]⟩ (by simp [*]) (by simp [*]; rfl) ?_) | refine OutOK.run (by simp [*]; rfl) ?_ | refine AW.ret ?_ | refine AW.skip ?_ | refine AW.exit ?_ | refine fin_r ?_ | refine fin_n ?_ | refine AW.block ?_ | refine blockQ_n ?_ | refine blockQ_r ?_ | refine blockQ_e ?_ | refine blockQ_o rfl ?_)
        refine AW.loopS (α := Nat) (fun j => i ≤ j ∧ j ≤ l.length) (fun j => [(0, .c (.sl true 5 (edts true l))), (5, .rf 70000 []), (6, .c (.sc (.int .i64 (j : Int))))]) (fun j => [(70000, .sv (.sl false 5 (edts false (sn j))))]) (fun j => l.length - j) i ⟨Nat.le_refl _, hi⟩ [(56000, 70000)] (by simp) ⟨by simp, by simp [hs0.out], by simp⟩ ?_
        rintro j ⟨hij, hj⟩
        clear ce
        rcases Nat.lt_or_ge j l.length with hjl | hjl
        · have e3 : wrap64 ((j : Int) + 1) = ((j + 1 : Nat) : Int) := by rw [w64 (by omega) (by omega)]; omega
          have cy := c_spec_l22Copy l[j] (hl'.out _ (List.getElem_mem hjl))
          have hsj := hsn.out j hij hjl
          have hlj := hsl.out j hij
          generalize sn j = s1 at *
          replace hsj : Hd _ := hsj
          have b1 : (s1.length + 1) * 72 ≤ 140737488355328 := by ((try (clear e0)); (try (clear e1)); (try (clear e2)); (try (clear e3)); (try (clear e4)); (try (clear e5)); (try (clear e6)); (try (clear e7)); (try (clear e8)); (try (clear e9)); (try (clear e10)); (try (clear e11)); omega)
          have b2 : s1.length + 1 ≤ 4611686018427387904 := by ((try (clear e0)); (try (clear e1)); (try (clear e2)); (try (clear e3)); (try (clear e4)); (try (clear e5)); (try (clear e6)); (try (clear e7)); (try (clear e8)); (try (clear e9)); (try (clear e10)); (try (clear e11)); omega)
          obtain ⟨tm, ct2, ck, it, tx, hej⟩ : ∃ tm ct ck it tx, l[j] = ⟨tm, ct, ck, it, tx⟩ := ⟨_, _, _, _, _, rfl⟩
          rw [hej] at cy hsj
          repeat' (first | with_reducible refine OutOK.done ?_ | refine thenQ_n ?_ | refine thenQ_r ?_ | refine thenQ_e ?_ | refine AW.seq ?_ | refine AW.dreg tok mixed [11, 20, 29]  [(0, false), (1, false), (2, false), (3, false), (4, false), (5, false), (6, false), (7, false), (8, false), (10, false), (9, false), (11, true), (12, false), (13, false), (14, false), (15, false), (16, false), (17, false), (19, false), (18, false), (20, true), (21, false), (22, false), (23, false), (24, false), (25, false), (26, false), (28, false), (27, false), (29, true), (30, false), (31, false), (32, false), (33, false)] (by decide +kernel) rfl (by simp [*]; rfl) ?_ | refine AW.reg tok (by simp [*]; rfl) ?_ | refine AW.ifB (by simp [*]; rfl) ?_ | refine IfG.t ?_ | refine IfG.f ?_ | (refine IfG.p (fun hg => ?_) (fun hg => ?_) <;> (try (have hg' := hg; simp at hg'))) | (refine IfG.n (fun hg => ?_) (fun hg => ?_) <;> (try (have hg' := hg; simp at hg'))) | (refine OutOK.gateP (fun hg => ?_) (fun hg => ?_) <;> (try (have hg' := hg; simp at hg'))) | (refine OutOK.gateN (fun hg => ?_) (fun hg => ?_) <;> (try (have hg' := hg; simp at hg'))) | (refine IfG.g (fun hg => ?_) (fun hg => ?_) <;> (try (have hg' := hg; simp at hg'))) | (refine OutOK.gate (fun hg => ?_) (fun hg => ?_) <;> (try (have hg' := hg; simp at hg'))) | (refine OutOK.callF [] (by simp [*]; rfl) (by simp [*]; rfl) (by simp [*]; rfl) hb91 (by apply cy <;> first | assumption | exact Hd.out (by assumption) | ((try (clear e0)); (try (clear e1)); (try (clear e2)); (try (clear e3)); (try (clear e4)); (try (clear e5)); (try (clear e6)); (try (clear e7)); (try (clear e8)); (try (clear e9)); (try (clear e10)); (try (clear e11)); omega)) ⟨by simp [*], by simp [*], by simp [*], by simp [*], by simp [*]⟩ (by simp [*]) (by simp [*]; rfl) ?_) | refine OutOK.run (by simp [*]; rfl) ?_ | refine AW.ret ?_ | refine AW.skip ?_ | refine AW.exit ?_ | refine fin_r ?_ | refine fin_n ?_ | refine AW.block ?_ | refine blockQ_n ?_ | refine blockQ_r ?_ | refine blockQ_e ?_ | refine blockQ_o rfl ?_)
          exact ⟨j + 1, ⟨by clear e3; omega, hjl⟩, ⟨[], by simp, by simp, by simp [hsj.out], by simp⟩, by ((try (clear e0)); (try (clear e1)); (try (clear e2)); (try (clear e3)); (try (clear e4)); (try (clear e5)); (try (clear e6)); (try (clear e7)); (try (clear e8)); (try (clear e9)); (try (clear e10)); (try (clear e11)); omega)⟩
        · have hjj : j = l.length := by omega
          subst hjj
          rw [hse.out]
          repeat' (first | with_reducible refine OutOK.done ?_ | refine thenQ_n ?_ | refine thenQ_r ?_ | refine thenQ_e ?_ | refine AW.seq ?_ | refine AW.dreg tok mixed [11, 20, 29]  [(0, false), (1, false), (2, false), (3, false), (4, false), (5, false), (6, false), (7, false), (8, false), (10, false), (9, false), (11, true), (12, false), (13, false), (14, false), (15, false), (16, false), (17, false), (19, false), (18, false), (20, true), (21, false), (22, false), (23, false), (24, false), (25, false), (26, false), (28, false), (27, false), (29, true), (30, false), (31, false), (32, false), (33, false)] (by decide +kernel) rfl (by simp [*]; rfl) ?_ | refine AW.reg tok (by simp [*]; rfl) ?_ | refine AW.ifB (by simp [*]; rfl) ?_ | refine IfG.t ?_ | refine IfG.f ?_ | (refine IfG.p (fun hg => ?_) (fun hg => ?_) <;> (try (have hg' := hg; simp at hg'))) | (refine IfG.n (fun hg => ?_) (fun hg => ?_) <;> (try (have hg' := hg; simp at hg'))) | (refine OutOK.gateP (fun hg => ?_) (fun hg => ?_) <;> (try (have hg' := hg; simp at hg'))) | (refine OutOK.gateN (fun hg => ?_) (fun hg => ?_) <;> (try (have hg' := hg; simp at hg'))) | (refine IfG.g (fun hg => ?_) (fun hg => ?_) <;> (try (have hg' := hg; simp at hg'))) | (refine OutOK.gate (fun hg => ?_) (fun hg => ?_) <;> (try (have hg' := hg; simp at hg'))) | refine OutOK.run (by simp [*]; rfl) ?_ | refine AW.ret ?_ | refine AW.skip ?_ | refine AW.exit ?_ | refine fin_r ?_ | refine fin_n ?_ | refine AW.block ?_ | refine blockQ_n ?_ | refine blockQ_r ?_ | refine blockQ_e ?_ | refine blockQ_o rfl ?_)
          simp [Try.f100]
  · have HS : ∀ (h : i < l.length), befE ⟨T, C, K, I, X⟩ l[i] = false := fun h => by omega
    have hin : ¬ i < l.length := by omega
    obtain ⟨sn, hs0, hsn, hsl, hse⟩ : ∃ sn : Nat → List Edt, Hd (sn i = l.take i ++ [⟨T, C, K, I, X⟩]) ∧ Hd (∀ j, i ≤ j → (hj : j < l.length) → sn (j + 1) = sn j ++ [l[j]]) ∧ Hd (∀ j, i ≤ j → (sn j).length ≤ 101) ∧ Hd (sn l.length = putL l ⟨T, C, K, I, X⟩) := second_sn hi h hb.out HS
    rw [hR.out] at hse
    clear hR
    clear HS
    generalize l.take i = s1 at *
    have b3 : (s1.length + 1) * 72 ≤ 140737488355328 := by ((try (clear e0)); (try (clear e1)); (try (clear e2)); (try (clear e3)); (try (clear e4)); (try (clear e5)); (try (clear e6)); (try (clear e7)); (try (clear e8)); (try (clear e9)); (try (clear e10)); (try (clear e11)); omega)
    have b4 : s1.length + 1 ≤ 4611686018427387904 := by ((try (clear e0)); (try (clear e1)); (try (clear e2)); (try (clear e3)); (try (clear e4)); (try (clear e5)); (try (clear e6)); (try (clear e7)); (try (clear e8)); (try (clear e9)); (try (clear e10)); (try (clear e11)); omega)
    repeat' (first | with_reducible refine OutOK.done ?_ | refine thenQ_n ?_ | refine thenQ_r ?_ | refine thenQ_e ?_ | refine AW.seq ?_ | refine AW.dreg tok mixed [11, 20, 29]  [(0, false), (1, false), (2, false), (3, false), (4, false), (5, false), (6, false), (7, false), (8, false), (10, false), (9, false), (11, true), (12, false), (13, false), (14, false), (15, false), (16, false), (17, false), (19, false), (18, false), (20, true), (21, false), (22, false), (23, false), (24, false), (25, false), (26, false), (28, false), (27, false), (29, true), (30, false), (31, false), (32, false), (33, false)] (by decide +kernel) rfl (by simp [*]; rfl) ?_ | refine AW.reg tok (by simp [*]; rfl) ?_ | refine AW.ifB (by simp [*]; rfl) ?_ | refine IfG.t ?_ | refine IfG.f ?_ | (refine IfG.p (fun hg => ?_) (fun hg => ?_) <;> (try (have hg' := hg; simp at hg'))) | (refine IfG.n (fun hg => ?_) (fun hg => ?_) <;> (try (have hg' := hg; simp at hg'))) | (refine OutOK.gateP (fun hg => ?_) (fun hg => ?_) <;> (try (have hg' := hg; simp at hg'))) | (refine OutOK.gateN (fun hg => ?_) (fun hg => ?_) <;> (try (have hg' := hg; simp at hg'))) | (refine IfG.g (fun hg => ?_) (fun hg => ?_) <;> (try (have hg' := hg; simp at hg'))) | (refine OutOK.gate (fun hg => ?_) (fun hg => ?_) <;> (try (have hg' := hg; simp at hg'))) | (refine OutOK.callF [] (by simp [*]; rfl) (by simp [*]; rfl) (by simp [*]; rfl) hb91 (by apply ce <;> first | assumption | exact Hd.out (by assumption) | ((try (clear e0)); (try (clear e1)); (try (clear e2)); (try (clear e3)); (try (clear e4)); (try (clear e5)); (try (clear e6)); (try (clear e7)); (try (clear e8)); (try (clear e9)); (try (clear e10)); (try (clear e11)); omega)) ⟨by simp [*], by simp [*], by simp [*], by simp [*], by simp [*]⟩ (by simp [*]) (by simp [*]; rfl) ?_) | refine OutOK.run (by simp [*]; rfl) ?_ | refine AW.ret ?_ | refine AW.skip ?_ | refine AW.exit ?_ | refine fin_r ?_ | refine fin_n ?_ | refine AW.block ?_ | refine blockQ_n ?_ | refine blockQ_r ?_ | refine blockQ_e ?_ | refine blockQ_o rfl ?_)
    refine AW.loopS (α := Nat) (fun j => i ≤ j ∧ j ≤ l.length) (fun j => [(0, .c (.sl true 5 (edts true l))), (5, .rf 70000 []), (6, .c (.sc (.int .i64 (j : Int))))]) (fun j => [(70000, .sv (.sl false 5 (edts false (sn j))))]) (fun j => l.length - j) i ⟨Nat.le_refl _, hi⟩ [(56000, 70000)] (by simp) ⟨by simp, by simp [hs0.out], by simp⟩ ?_
    rintro j ⟨hij, hj⟩
    clear ce
    rcases Nat.lt_or_ge j l.length with hjl | hjl
    · have e3 : wrap64 ((j : Int) + 1) = ((j + 1 : Nat) : Int) := by rw [w64 (by omega) (by omega)]; omega
      have cy := c_spec_l22Copy l[j] (hl'.out _ (List.getElem_mem hjl))
      have hsj := hsn.out j hij hjl
      have hlj := hsl.out j hij
      generalize sn j = s1 at *
      replace hsj : Hd _ := hsj
      have b1 : (s1.length + 1) * 72 ≤ 140737488355328 := by ((try (clear e0)); (try (clear e1)); (try (clear e2)); (try (clear e3)); (try (clear e4)); (try (clear e5)); (try (clear e6)); (try (clear e7)); (try (clear e8)); (try (clear e9)); (try (clear e10)); (try (clear e11)); omega)
      have b2 : s1.length + 1 ≤ 4611686018427387904 := by ((try (clear e0)); (try (clear e1)); (try (clear e2)); (try (clear e3)); (try (clear e4)); (try (clear e5)); (try (clear e6)); (try (clear e7)); (try (clear e8)); (try (clear e9)); (try (clear e10)); (try (clear e11)); omega)
      obtain ⟨tm, ct2, ck, it, tx, hej⟩ : ∃ tm ct ck it tx, l[j] = ⟨tm, ct, ck, it, tx⟩ := ⟨_, _, _, _, _, rfl⟩
      rw [hej] at cy hsj
      repeat' (first | with_reducible refine OutOK.done ?_ | refine thenQ_n ?_ | refine thenQ_r ?_ | refine thenQ_e ?_ | refine AW.seq ?_ | refine AW.dreg tok mixed [11, 20, 29]  [(0, false), (1, false), (2, false), (3, false), (4, false), (5, false), (6, false), (7, false), (8, false), (10, false), (9, false), (11, true), (12, false), (13, false), (14, false), (15, false), (16, false), (17, false), (19, false), (18, false), (20, true), (21, false), (22, false), (23, false), (24, false), (25, false), (26, false), (28, false), (27, false), (29, true), (30, false), (31, false), (32, false), (33, false)] (by decide +kernel) rfl (by simp [*]; rfl) ?_ | refine AW.reg tok (by simp [*]; rfl) ?_ | refine AW.ifB (by simp [*]; rfl) ?_ | refine IfG.t ?_ | refine IfG.f ?_ | (refine IfG.p (fun hg => ?_) (fun hg => ?_) <;> (try (have hg' := hg; simp at hg'))) | (refine IfG.n (fun hg => ?_) (fun hg => ?_) <;> (try (have hg' := hg; simp at hg'))) | (refine OutOK.gateP (fun hg => ?_) (fun hg => ?_) <;> (try (have hg' := hg; simp at hg'))) | (refine OutOK.gateN (fun hg => ?_) (fun hg => ?_) <;> (try (have hg' := hg; simp at hg'))) | (refine IfG.g (fun hg => ?_) (fun hg => ?_) <;> (try (have hg' := hg; simp at hg'))) | (refine OutOK.gate (fun hg => ?_) (fun hg => ?_) <;> (try (have hg' := hg; simp at hg'))) | (refine OutOK.callF [] (by simp [*]; rfl) (by simp [*]; rfl) (by simp [*]; rfl) hb91 (by apply cy <;> first | assumption | exact Hd.out (by assumption) | ((try (clear e0)); (try (clear e1)); (try (clear e2)); (try (clear e3)); (try (clear e4)); (try (clear e5)); (try (clear e6)); (try (clear e7)); (try (clear e8)); (try (clear e9)); (try (clear e10)); (try (clear e11)); omega)) ⟨by simp [*], by simp [*], by simp [*], by simp [*], by simp [*]⟩ (by simp [*]) (by simp [*]; rfl) ?_) | refine OutOK.run (by simp [*]; rfl) ?_ | refine AW.ret ?_ | refine AW.skip ?_ | refine AW.exit ?_ | refine fin_r ?_ | refine fin_n ?_ | refine AW.block ?_ | refine blockQ_n ?_ | refine blockQ_r ?_ | refine blockQ_e ?_ | refine blockQ_o rfl ?_)
      exact ⟨j + 1, ⟨by clear e3; omega, hjl⟩, ⟨[], by simp, by simp, by simp [hsj.out], by simp⟩, by ((try (clear e0)); (try (clear e1)); (try (clear e2)); (try (clear e3)); (try (clear e4)); (try (clear e5)); (try (clear e6)); (try (clear e7)); (try (clear e8)); (try (clear e9)); (try (clear e10)); (try (clear e11)); omega)⟩
    · have hjj : j = l.length := by omega
      subst hjj
      rw [hse.out]
      repeat' (first | with_reducible refine OutOK.done ?_ | refine thenQ_n ?_ | refine thenQ_r ?_ | refine thenQ_e ?_ | refine AW.seq ?_ | refine AW.dreg tok mixed [11, 20, 29]  [(0, false), (1, false), (2, false), (3, false), (4, false), (5, false), (6, false), (7, false), (8, false), (10, false), (9, false), (11, true), (12, false), (13, false), (14, false), (15, false), (16, false), (17, false), (19, false), (18, false), (20, true), (21, false), (22, false), (23, false), (24, false), (25, false), (26, false), (28, false), (27, false), (29, true), (30, false), (31, false), (32, false), (33, false)] (by decide +kernel) rfl (by simp [*]; rfl) ?_ | refine AW.reg tok (by simp [*]; rfl) ?_ | refine AW.ifB (by simp [*]; rfl) ?_ | refine IfG.t ?_ | refine IfG.f ?_ | (refine IfG.p (fun hg => ?_) (fun hg => ?_) <;> (try (have hg' := hg; simp at hg'))) | (refine IfG.n (fun hg => ?_) (fun hg => ?_) <;> (try (have hg' := hg; simp at hg'))) | (refine OutOK.gateP (fun hg => ?_) (fun hg => ?_) <;> (try (have hg' := hg; simp at hg'))) | (refine OutOK.gateN (fun hg => ?_) (fun hg => ?_) <;> (try (have hg' := hg; simp at hg'))) | (refine IfG.g (fun hg => ?_) (fun hg => ?_) <;> (try (have hg' := hg; simp at hg'))) | (refine OutOK.gate (fun hg => ?_) (fun hg => ?_) <;> (try (have hg' := hg; simp at hg'))) | refine OutOK.run (by simp [*]; rfl) ?_ | refine AW.ret ?_ | refine AW.skip ?_ | refine AW.exit ?_ | refine fin_r ?_ | refine fin_n ?_ | refine AW.block ?_ | refine blockQ_n ?_ | refine blockQ_r ?_ | refine blockQ_e ?_ | refine blockQ_o rfl ?_)
      simp [Try.f100]
end Go.Proofs.Ytbofobjofngoeaa.EngS


set_option linter.unusedSimpArgs false
set_option linter.unusedVariables false
set_option maxHeartbeats 4000000
set_option maxRecDepth 100000
namespace Go.Proofs.Ytbofobjofngoeaa.EngS
open Go Go.Proofs Go.Eng Go.RowKit
theorem c_spec_l1Same (xs ys : List Int) (h : xs.length < 9223372036854775807) : ACall Try.prog 130 [.v (.sl true 1 (ints xs)), .v (.sl true 1 (ints ys))] [.x, .x] [boo (decide (xs = ys))] := by
  refine ACall.of (N := 26) tok Try.func130 rfl rfl rfl (by simp) ?_
  repeat' (first | with_reducible refine OutOK.done ?_ | refine thenQ_n ?_ | refine thenQ_r ?_ | refine thenQ_e ?_ | refine AW.seq ?_ | refine AW.dreg tok mixed [7]  [(0, false), (1, false), (2, false), (4, false), (5, false), (6, false), (3, false), (7, true), (8, false)] (by decide +kernel) rfl (by simp [*]; rfl) ?_ | refine AW.reg tok (by simp [*]; rfl) ?_ | refine AW.ifB (by simp [*]; rfl) ?_ | refine IfG.t ?_ | refine IfG.f ?_ | (refine IfG.p (fun hg => ?_) (fun hg => ?_) <;> (try (have hg' := hg; simp at hg'))) | (refine IfG.n (fun hg => ?_) (fun hg => ?_) <;> (try (have hg' := hg; simp at hg'))) | (refine OutOK.gateP (fun hg => ?_) (fun hg => ?_) <;> (try (have hg' := hg; simp at hg'))) | (refine OutOK.gateN (fun hg => ?_) (fun hg => ?_) <;> (try (have hg' := hg; simp at hg'))) | (refine IfG.g (fun hg => ?_) (fun hg => ?_) <;> (try (have hg' := hg; simp at hg'))) | (refine OutOK.gate (fun hg => ?_) (fun hg => ?_) <;> (try (have hg' := hg; simp at hg'))) | refine OutOK.run (by simp [*]; rfl) ?_ | refine AW.ret ?_ | refine AW.skip ?_ | refine AW.exit ?_ | refine fin_r ?_ | refine fin_n ?_ | refine AW.block ?_ | refine blockQ_n ?_ | refine blockQ_r ?_ | refine blockQ_e ?_ | refine blockQ_o rfl ?_)
  · have : ¬ xs = ys := fun e => by subst e; simp at *
    simp [Try.f130, this]
  refine AW.loopL (α := Nat) (fun i => i ≤ xs.length ∧ ∀ j < i, xs[j]? = ys[j]?) (fun i => [(0, .c (.sl true 1 (ints xs))), (1, .c (.sl true 1 (ints ys))), (4, .c (.sc (.bool false))), (5, .c (.sc (.int .i64 (i : Int))))]) (fun _ => []) (fun i => xs.length - i) 0 ⟨Nat.zero_le _, by simp⟩ ⟨by simp, by simp, by simp⟩ ?_
  rintro i ⟨hi, hs⟩
  have hl : xs.length = ys.length := by omega
  repeat' (first | with_reducible refine OutOK.done ?_ | refine thenQ_n ?_ | refine thenQ_r ?_ | refine thenQ_e ?_ | refine AW.seq ?_ | refine AW.dreg tok mixed [7]  [(0, false), (1, false), (2, false), (4, false), (5, false), (6, false), (3, false), (7, true), (8, false)] (by decide +kernel) rfl (by simp [*]; rfl) ?_ | refine AW.reg tok (by simp [*]; rfl) ?_ | refine AW.ifB (by simp [*]; rfl) ?_ | refine IfG.t ?_ | refine IfG.f ?_ | (refine IfG.p (fun hg => ?_) (fun hg => ?_) <;> (try (have hg' := hg; simp at hg'))) | (refine IfG.n (fun hg => ?_) (fun hg => ?_) <;> (try (have hg' := hg; simp at hg'))) | (refine OutOK.gateP (fun hg => ?_) (fun hg => ?_) <;> (try (have hg' := hg; simp at hg'))) | (refine OutOK.gateN (fun hg => ?_) (fun hg => ?_) <;> (try (have hg' := hg; simp at hg'))) | (refine IfG.g (fun hg => ?_) (fun hg => ?_) <;> (try (have hg' := hg; simp at hg'))) | (refine OutOK.gate (fun hg => ?_) (fun hg => ?_) <;> (try (have hg' := hg; simp at hg'))) | refine OutOK.run (by simp [*]; rfl) ?_ | refine AW.ret ?_ | refine AW.skip ?_ | refine AW.exit ?_ | refine fin_r ?_ | refine fin_n ?_ | refine AW.block ?_ | refine blockQ_n ?_ | refine blockQ_r ?_ | refine blockQ_e ?_ | refine blockQ_o rfl ?_)
  · have : ¬ xs = ys := fun e => by subst e; simp at *
    simp [Try.f130, this]
  · have hi' : i < xs.length := by omega
    have e1 : wrap64 ((i : Int) + 1) = ((i + 1 : Nat) : Int) := by rw [w64 (by omega) (by omega)]; omega
    refine ⟨i + 1, ⟨hi', fun j hj => ?_⟩, ⟨by simp [e1], by simp, by simp⟩, by clear e1; omega⟩
    · rcases Nat.lt_succ_iff_lt_or_eq.1 hj with h1 | h1
      · exact hs j h1
      · subst h1; simp [*]
  · have hi' : i = xs.length := by omega
    have : xs = ys := by
      apply List.ext_getElem? 
      intro j
      by_cases hj : j < xs.length
      · exact hs j (by omega)
      · rw [List.getElem?_eq_none (by omega), List.getElem?_eq_none (by omega)]
    simp [Try.f130, this]
theorem c_slices_Equal_int (xs ys : List Int) (h : xs.length < 9223372036854775807) : ACall Try.prog 131 [.v (.sl true 1 (ints xs)), .v (.sl true 1 (ints ys))] [.x, .x] [boo (decide (xs = ys))] := by
  by_cases hln : xs.length = ys.length
  · have hln2 : ((xs.length : Int) = (ys.length : Int)) = True := by rw [hln]; simp
    replace hln : Hd _ := hln
    refine ACall.of (N := 26) tok Try.func131 rfl rfl rfl (by simp) ?_
    repeat' (first | with_reducible refine OutOK.done ?_ | refine thenQ_n ?_ | refine thenQ_r ?_ | refine thenQ_e ?_ | refine AW.seq ?_ | refine AW.dreg tok mixed [7]  [(0, false), (1, false), (2, false), (4, false), (5, false), (6, false), (3, false), (7, true), (8, false)] (by decide +kernel) rfl (by simp [*]; rfl) ?_ | refine AW.reg tok (by simp [*]; rfl) ?_ | refine AW.ifB (by simp [*]; rfl) ?_ | refine IfG.t ?_ | refine IfG.f ?_ | (refine IfG.p (fun hg => ?_) (fun hg => ?_) <;> (try (have hg' := hg; simp at hg'))) | (refine IfG.n (fun hg => ?_) (fun hg => ?_) <;> (try (have hg' := hg; simp at hg'))) | (refine OutOK.gateP (fun hg => ?_) (fun hg => ?_) <;> (try (have hg' := hg; simp at hg'))) | (refine OutOK.gateN (fun hg => ?_) (fun hg => ?_) <;> (try (have hg' := hg; simp at hg'))) | (refine IfG.g (fun hg => ?_) (fun hg => ?_) <;> (try (have hg' := hg; simp at hg'))) | (refine OutOK.gate (fun hg => ?_) (fun hg => ?_) <;> (try (have hg' := hg; simp at hg'))) | refine OutOK.run (by simp [*]; rfl) ?_ | refine AW.ret ?_ | refine AW.skip ?_ | refine AW.exit ?_ | refine fin_r ?_ | refine fin_n ?_ | refine AW.block ?_ | refine blockQ_n ?_ | refine blockQ_r ?_ | refine blockQ_e ?_ | refine blockQ_o rfl ?_)
    refine AW.loopL (α := Nat) (fun i => i ≤ xs.length ∧ Hd (∀ j < i, xs[j]? = ys[j]?)) (fun i => [(0, .c (.sl true 1 (ints xs))), (1, .c (.sl true 1 (ints ys))), (11, .c (.sl true 1 (ints xs))), (12, .c (.sc (.int .i64 (xs.length : Int)))), (13, .c (.sc (.int .i64 (i : Int))))]) (fun _ => []) (fun i => xs.length - i) 0 ⟨Nat.zero_le _, by simp [Hd]⟩ ⟨by simp, by simp, by simp⟩ ?_
    rintro i ⟨hi, hs⟩
    rcases Nat.lt_or_ge i xs.length with hl | hl
    · have hl2 : i < ys.length := by have := hln.out; omega
      have e1 : wrap64 ((i : Int) + 1) = ((i + 1 : Nat) : Int) := by rw [w64 (by omega) (by omega)]; omega
      by_cases hx : xs[i] = ys[i]
      · have hs2 : Hd (∀ j < i + 1, xs[j]? = ys[j]?) := by
          intro j hj
          rcases Nat.lt_succ_iff_lt_or_eq.1 hj with h1 | rfl
          · exact hs.out j h1
          · rw [List.getElem?_eq_getElem hl, List.getElem?_eq_getElem hl2, hx]
        clear hln hln2
        repeat' (first | with_reducible refine OutOK.done ?_ | refine thenQ_n ?_ | refine thenQ_r ?_ | refine thenQ_e ?_ | refine AW.seq ?_ | refine AW.dreg tok mixed [7]  [(0, false), (1, false), (2, false), (4, false), (5, false), (6, false), (3, false), (7, true), (8, false)] (by decide +kernel) rfl (by simp [*]; rfl) ?_ | refine AW.reg tok (by simp [*]; rfl) ?_ | refine AW.ifB (by simp [*]; rfl) ?_ | refine IfG.t ?_ | refine IfG.f ?_ | (refine IfG.p (fun hg => ?_) (fun hg => ?_) <;> (try (have hg' := hg; simp at hg'))) | (refine IfG.n (fun hg => ?_) (fun hg => ?_) <;> (try (have hg' := hg; simp at hg'))) | (refine OutOK.gateP (fun hg => ?_) (fun hg => ?_) <;> (try (have hg' := hg; simp at hg'))) | (refine OutOK.gateN (fun hg => ?_) (fun hg => ?_) <;> (try (have hg' := hg; simp at hg'))) | (refine IfG.g (fun hg => ?_) (fun hg => ?_) <;> (try (have hg' := hg; simp at hg'))) | (refine OutOK.gate (fun hg => ?_) (fun hg => ?_) <;> (try (have hg' := hg; simp at hg'))) | refine OutOK.run (by simp [*]; rfl) ?_ | refine AW.ret ?_ | refine AW.skip ?_ | refine AW.exit ?_ | refine fin_r ?_ | refine fin_n ?_ | refine AW.block ?_ | refine blockQ_n ?_ | refine blockQ_r ?_ | refine blockQ_e ?_ | refine blockQ_o rfl ?_)
        exact ⟨i + 1, ⟨hl, hs2⟩, ⟨by simp, by simp, by simp⟩, by ((try (clear e0)); (try (clear e1)); (try (clear e2)); (try (clear e3)); (try (clear e4)); (try (clear e5)); (try (clear e6)); (try (clear e7)); (try (clear e8)); (try (clear e9)); (try (clear e10)); (try (clear e11)); omega)⟩
      · have hne : ¬ xs = ys := fun e => hx (by subst e; rfl)
        clear hln hln2
        repeat' (first | with_reducible refine OutOK.done ?_ | refine thenQ_n ?_ | refine thenQ_r ?_ | refine thenQ_e ?_ | refine AW.seq ?_ | refine AW.dreg tok mixed [7]  [(0, false), (1, false), (2, false), (4, false), (5, false), (6, false), (3, false), (7, true), (8, false)] (by decide +kernel) rfl (by simp [*]; rfl) ?_ | refine AW.reg tok (by simp [*]; rfl) ?_ | refine AW.ifB (by simp [*]; rfl) ?_ | refine IfG.t ?_ | refine IfG.f ?_ | (refine IfG.p (fun hg => ?_) (fun hg => ?_) <;> (try (have hg' := hg; simp at hg'))) | (refine IfG.n (fun hg => ?_) (fun hg => ?_) <;> (try (have hg' := hg; simp at hg'))) | (refine OutOK.gateP (fun hg => ?_) (fun hg => ?_) <;> (try (have hg' := hg; simp at hg'))) | (refine OutOK.gateN (fun hg => ?_) (fun hg => ?_) <;> (try (have hg' := hg; simp at hg'))) | (refine IfG.g (fun hg => ?_) (fun hg => ?_) <;> (try (have hg' := hg; simp at hg'))) | (refine OutOK.gate (fun hg => ?_) (fun hg => ?_) <;> (try (have hg' := hg; simp at hg'))) | refine OutOK.run (by simp [*]; rfl) ?_ | refine AW.ret ?_ | refine AW.skip ?_ | refine AW.exit ?_ | refine fin_r ?_ | refine fin_n ?_ | refine AW.block ?_ | refine blockQ_n ?_ | refine blockQ_r ?_ | refine blockQ_e ?_ | refine blockQ_o rfl ?_)
        simp [Try.f131, hne]
    · have he : Hd (xs = ys) := by
        have hln := hln.out
        apply List.ext_getElem?
        intro j
        by_cases hj : j < xs.length
        · exact hs.out j (by omega)
        · rw [List.getElem?_eq_none (by omega), List.getElem?_eq_none (by omega)]
      have hin : ¬ i < xs.length := by omega
      clear hln hln2
      repeat' (first | with_reducible refine OutOK.done ?_ | refine thenQ_n ?_ | refine thenQ_r ?_ | refine thenQ_e ?_ | refine AW.seq ?_ | refine AW.dreg tok mixed [7]  [(0, false), (1, false), (2, false), (4, false), (5, false), (6, false), (3, false), (7, true), (8, false)] (by decide +kernel) rfl (by simp [*]; rfl) ?_ | refine AW.reg tok (by simp [*]; rfl) ?_ | refine AW.ifB (by simp [*]; rfl) ?_ | refine IfG.t ?_ | refine IfG.f ?_ | (refine IfG.p (fun hg => ?_) (fun hg => ?_) <;> (try (have hg' := hg; simp at hg'))) | (refine IfG.n (fun hg => ?_) (fun hg => ?_) <;> (try (have hg' := hg; simp at hg'))) | (refine OutOK.gateP (fun hg => ?_) (fun hg => ?_) <;> (try (have hg' := hg; simp at hg'))) | (refine OutOK.gateN (fun hg => ?_) (fun hg => ?_) <;> (try (have hg' := hg; simp at hg'))) | (refine IfG.g (fun hg => ?_) (fun hg => ?_) <;> (try (have hg' := hg; simp at hg'))) | (refine OutOK.gate (fun hg => ?_) (fun hg => ?_) <;> (try (have hg' := hg; simp at hg'))) | refine OutOK.run (by simp [*]; rfl) ?_ | refine AW.ret ?_ | refine AW.skip ?_ | refine AW.exit ?_ | refine fin_r ?_ | refine fin_n ?_ | refine AW.block ?_ | refine blockQ_n ?_ | refine blockQ_r ?_ | refine blockQ_e ?_ | refine blockQ_o rfl ?_)
      simp [Try.f131, he.out]
  · have hne : ¬ xs = ys := fun e => hln (by subst e; rfl)
    have hln2 : ¬ (xs.length : Int) = ys.length := by omega
    refine ACall.of (N := 26) tok Try.func131 rfl rfl rfl (by simp) ?_
    repeat' (first | with_reducible refine OutOK.done ?_ | refine thenQ_n ?_ | refine thenQ_r ?_ | refine thenQ_e ?_ | refine AW.seq ?_ | refine AW.dreg tok mixed [7]  [(0, false), (1, false), (2, false), (4, false), (5, false), (6, false), (3, false), (7, true), (8, false)] (by decide +kernel) rfl (by simp [*]; rfl) ?_ | refine AW.reg tok (by simp [*]; rfl) ?_ | refine AW.ifB (by simp [*]; rfl) ?_ | refine IfG.t ?_ | refine IfG.f ?_ | (refine IfG.p (fun hg => ?_) (fun hg => ?_) <;> (try (have hg' := hg; simp at hg'))) | (refine IfG.n (fun hg => ?_) (fun hg => ?_) <;> (try (have hg' := hg; simp at hg'))) | (refine OutOK.gateP (fun hg => ?_) (fun hg => ?_) <;> (try (have hg' := hg; simp at hg'))) | (refine OutOK.gateN (fun hg => ?_) (fun hg => ?_) <;> (try (have hg' := hg; simp at hg'))) | (refine IfG.g (fun hg => ?_) (fun hg => ?_) <;> (try (have hg' := hg; simp at hg'))) | (refine OutOK.gate (fun hg => ?_) (fun hg => ?_) <;> (try (have hg' := hg; simp at hg'))) | refine OutOK.run (by simp [*]; rfl) ?_ | refine AW.ret ?_ | refine AW.skip ?_ | refine AW.exit ?_ | refine fin_r ?_ | refine fin_n ?_ | refine AW.block ?_ | refine blockQ_n ?_ | refine blockQ_r ?_ | refine blockQ_e ?_ | refine blockQ_o rfl ?_)
    simp [Try.f131, hne]
def sameE (a b : Edt) : Bool := decide (a.tm = b.tm) && decide (a.ct = b.ct) && decide (a.ck = b.ck) && decide (a.it.toList = b.it.toList) && decide (a.tx.toList = b.tx.toList)
theorem c_impl_sameEdit (a b : Edt) (h : a.ck.length < 9223372036854775807) : ACall Try.prog 101 [edtD a, edtD b] [.x, .x] [boo (sameE a b)] := by
  have cq := c_slices_Equal_int a.ck b.ck h
  obtain ⟨t1, c1, k1, i1, x1⟩ := a
  obtain ⟨t2, c2, k2, i2, x2⟩ := b
  simp only [sameE] at *
  by_cases h1 : t1 = t2
  · by_cases h2 : c1 = c2
    · by_cases h3 : k1 = k2
      · subst h3
        simp only [decide_true] at cq
        by_cases h4 : i1.toList = i2.toList
        · refine ACall.of (N := 38) tok Try.func101 rfl rfl rfl (by simp) ?_
          repeat' (first | with_reducible refine OutOK.done ?_ | refine thenQ_n ?_ | refine thenQ_r ?_ | refine thenQ_e ?_ | refine AW.seq ?_ | refine AW.reg tok (by simp [*]; rfl) ?_ | refine AW.ifB (by simp [*]; rfl) ?_ | refine IfG.t ?_ | refine IfG.f ?_ | (refine IfG.p (fun hg => ?_) (fun hg => ?_) <;> (try (have hg' := hg; simp at hg'))) | (refine IfG.n (fun hg => ?_) (fun hg => ?_) <;> (try (have hg' := hg; simp at hg'))) | (refine OutOK.gateP (fun hg => ?_) (fun hg => ?_) <;> (try (have hg' := hg; simp at hg'))) | (refine OutOK.gateN (fun hg => ?_) (fun hg => ?_) <;> (try (have hg' := hg; simp at hg'))) | (refine IfG.g (fun hg => ?_) (fun hg => ?_) <;> (try (have hg' := hg; simp at hg'))) | (refine OutOK.gate (fun hg => ?_) (fun hg => ?_) <;> (try (have hg' := hg; simp at hg'))) | (refine OutOK.callF [] (by simp [*]; rfl) (by simp [*]; rfl) (by simp [*]; rfl) hb131 (by apply cq <;> first | assumption | exact Hd.out (by assumption) | ((try (clear e0)); (try (clear e1)); (try (clear e2)); (try (clear e3)); (try (clear e4)); (try (clear e5)); (try (clear e6)); (try (clear e7)); (try (clear e8)); (try (clear e9)); (try (clear e10)); (try (clear e11)); omega)) ⟨by simp [*], by simp [*], by simp [*], by simp [*], by simp [*]⟩ (by simp [*]) (by simp [*]; rfl) ?_) | refine OutOK.run (by simp [*]; rfl) ?_ | refine AW.ret ?_ | refine AW.skip ?_ | refine AW.exit ?_ | refine fin_r ?_ | refine fin_n ?_ | refine AW.block ?_ | refine blockQ_n ?_ | refine blockQ_r ?_ | refine blockQ_e ?_ | refine blockQ_o rfl ?_)
          simp [Try.f101, *]
        · refine ACall.of (N := 38) tok Try.func101 rfl rfl rfl (by simp) ?_
          repeat' (first | with_reducible refine OutOK.done ?_ | refine thenQ_n ?_ | refine thenQ_r ?_ | refine thenQ_e ?_ | refine AW.seq ?_ | refine AW.reg tok (by simp [*]; rfl) ?_ | refine AW.ifB (by simp [*]; rfl) ?_ | refine IfG.t ?_ | refine IfG.f ?_ | (refine IfG.p (fun hg => ?_) (fun hg => ?_) <;> (try (have hg' := hg; simp at hg'))) | (refine IfG.n (fun hg => ?_) (fun hg => ?_) <;> (try (have hg' := hg; simp at hg'))) | (refine OutOK.gateP (fun hg => ?_) (fun hg => ?_) <;> (try (have hg' := hg; simp at hg'))) | (refine OutOK.gateN (fun hg => ?_) (fun hg => ?_) <;> (try (have hg' := hg; simp at hg'))) | (refine IfG.g (fun hg => ?_) (fun hg => ?_) <;> (try (have hg' := hg; simp at hg'))) | (refine OutOK.gate (fun hg => ?_) (fun hg => ?_) <;> (try (have hg' := hg; simp at hg'))) | (refine OutOK.callF [] (by simp [*]; rfl) (by simp [*]; rfl) (by simp [*]; rfl) hb131 (by apply cq <;> first | assumption | exact Hd.out (by assumption) | ((try (clear e0)); (try (clear e1)); (try (clear e2)); (try (clear e3)); (try (clear e4)); (try (clear e5)); (try (clear e6)); (try (clear e7)); (try (clear e8)); (try (clear e9)); (try (clear e10)); (try (clear e11)); omega)) ⟨by simp [*], by simp [*], by simp [*], by simp [*], by simp [*]⟩ (by simp [*]) (by simp [*]; rfl) ?_) | refine OutOK.run (by simp [*]; rfl) ?_ | refine AW.ret ?_ | refine AW.skip ?_ | refine AW.exit ?_ | refine fin_r ?_ | refine fin_n ?_ | refine AW.block ?_ | refine blockQ_n ?_ | refine blockQ_r ?_ | refine blockQ_e ?_ | refine blockQ_o rfl ?_)
          simp [Try.f101, *]
      · simp only [h3, decide_false] at cq
        refine ACall.of (N := 38) tok Try.func101 rfl rfl rfl (by simp) ?_
        repeat' (first | with_reducible refine OutOK.done ?_ | refine thenQ_n ?_ | refine thenQ_r ?_ | refine thenQ_e ?_ | refine AW.seq ?_ | refine AW.reg tok (by simp [*]; rfl) ?_ | refine AW.ifB (by simp [*]; rfl) ?_ | refine IfG.t ?_ | refine IfG.f ?_ | (refine IfG.p (fun hg => ?_) (fun hg => ?_) <;> (try (have hg' := hg; simp at hg'))) | (refine IfG.n (fun hg => ?_) (fun hg => ?_) <;> (try (have hg' := hg; simp at hg'))) | (refine OutOK.gateP (fun hg => ?_) (fun hg => ?_) <;> (try (have hg' := hg; simp at hg'))) | (refine OutOK.gateN (fun hg => ?_) (fun hg => ?_) <;> (try (have hg' := hg; simp at hg'))) | (refine IfG.g (fun hg => ?_) (fun hg => ?_) <;> (try (have hg' := hg; simp at hg'))) | (refine OutOK.gate (fun hg => ?_) (fun hg => ?_) <;> (try (have hg' := hg; simp at hg'))) | (refine OutOK.callF [] (by simp [*]; rfl) (by simp [*]; rfl) (by simp [*]; rfl) hb131 (by apply cq <;> first | assumption | exact Hd.out (by assumption) | ((try (clear e0)); (try (clear e1)); (try (clear e2)); (try (clear e3)); (try (clear e4)); (try (clear e5)); (try (clear e6)); (try (clear e7)); (try (clear e8)); (try (clear e9)); (try (clear e10)); (try (clear e11)); omega)) ⟨by simp [*], by simp [*], by simp [*], by simp [*], by simp [*]⟩ (by simp [*]) (by simp [*]; rfl) ?_) | refine OutOK.run (by simp [*]; rfl) ?_ | refine AW.ret ?_ | refine AW.skip ?_ | refine AW.exit ?_ | refine fin_r ?_ | refine fin_n ?_ | refine AW.block ?_ | refine blockQ_n ?_ | refine blockQ_r ?_ | refine blockQ_e ?_ | refine blockQ_o rfl ?_)
        simp [Try.f101, *]
    · refine ACall.of (N := 38) tok Try.func101 rfl rfl rfl (by simp) ?_
      repeat' (first | with_reducible refine OutOK.done ?_ | refine thenQ_n ?_ | refine thenQ_r ?_ | refine thenQ_e ?_ | refine AW.seq ?_ | refine AW.reg tok (by simp [*]; rfl) ?_ | refine AW.ifB (by simp [*]; rfl) ?_ | refine IfG.t ?_ | refine IfG.f ?_ | (refine IfG.p (fun hg => ?_) (fun hg => ?_) <;> (try (have hg' := hg; simp at hg'))) | (refine IfG.n (fun hg => ?_) (fun hg => ?_) <;> (try (have hg' := hg; simp at hg'))) | (refine OutOK.gateP (fun hg => ?_) (fun hg => ?_) <;> (try (have hg' := hg; simp at hg'))) | (refine OutOK.gateN (fun hg => ?_) (fun hg => ?_) <;> (try (have hg' := hg; simp at hg'))) | (refine IfG.g (fun hg => ?_) (fun hg => ?_) <;> (try (have hg' := hg; simp at hg'))) | (refine OutOK.gate (fun hg => ?_) (fun hg => ?_) <;> (try (have hg' := hg; simp at hg'))) | (refine OutOK.callF [] (by simp [*]; rfl) (by simp [*]; rfl) (by simp [*]; rfl) hb131 (by apply cq <;> first | assumption | exact Hd.out (by assumption) | ((try (clear e0)); (try (clear e1)); (try (clear e2)); (try (clear e3)); (try (clear e4)); (try (clear e5)); (try (clear e6)); (try (clear e7)); (try (clear e8)); (try (clear e9)); (try (clear e10)); (try (clear e11)); omega)) ⟨by simp [*], by simp [*], by simp [*], by simp [*], by simp [*]⟩ (by simp [*]) (by simp [*]; rfl) ?_) | refine OutOK.run (by simp [*]; rfl) ?_ | refine AW.ret ?_ | refine AW.skip ?_ | refine AW.exit ?_ | refine fin_r ?_ | refine fin_n ?_ | refine AW.block ?_ | refine blockQ_n ?_ | refine blockQ_r ?_ | refine blockQ_e ?_ | refine blockQ_o rfl ?_)
      simp [Try.f101, *]
  · refine ACall.of (N := 38) tok Try.func101 rfl rfl rfl (by simp) ?_
    repeat' (first | with_reducible refine OutOK.done ?_ | refine thenQ_n ?_ | refine thenQ_r ?_ | refine thenQ_e ?_ | refine AW.seq ?_ | refine AW.reg tok (by simp [*]; rfl) ?_ | refine AW.ifB (by simp [*]; rfl) ?_ | refine IfG.t ?_ | refine IfG.f ?_ | (refine IfG.p (fun hg => ?_) (fun hg => ?_) <;> (try (have hg' := hg; simp at hg'))) | (refine IfG.n (fun hg => ?_) (fun hg => ?_) <;> (try (have hg' := hg; simp at hg'))) | (refine OutOK.gateP (fun hg => ?_) (fun hg => ?_) <;> (try (have hg' := hg; simp at hg'))) | (refine OutOK.gateN (fun hg => ?_) (fun hg => ?_) <;> (try (have hg' := hg; simp at hg'))) | (refine IfG.g (fun hg => ?_) (fun hg => ?_) <;> (try (have hg' := hg; simp at hg'))) | (refine OutOK.gate (fun hg => ?_) (fun hg => ?_) <;> (try (have hg' := hg; simp at hg'))) | (refine OutOK.callF [] (by simp [*]; rfl) (by simp [*]; rfl) (by simp [*]; rfl) hb131 (by apply cq <;> first | assumption | exact Hd.out (by assumption) | ((try (clear e0)); (try (clear e1)); (try (clear e2)); (try (clear e3)); (try (clear e4)); (try (clear e5)); (try (clear e6)); (try (clear e7)); (try (clear e8)); (try (clear e9)); (try (clear e10)); (try (clear e11)); omega)) ⟨by simp [*], by simp [*], by simp [*], by simp [*], by simp [*]⟩ (by simp [*]) (by simp [*]; rfl) ?_) | refine OutOK.run (by simp [*]; rfl) ?_ | refine AW.ret ?_ | refine AW.skip ?_ | refine AW.exit ?_ | refine fin_r ?_ | refine fin_n ?_ | refine AW.block ?_ | refine blockQ_n ?_ | refine blockQ_r ?_ | refine blockQ_e ?_ | refine blockQ_o rfl ?_)
    simp [Try.f101, *]
theorem c_spec_l22Same (a b : Edt) (h : a.ck.length < 9223372036854775807) : ACall Try.prog 99 [edtD a, edtD b] [.x, .x] [boo (sameE a b)] := by
  have cq := c_spec_l1Same a.ck b.ck h
  obtain ⟨t1, c1, k1, i1, x1⟩ := a
  obtain ⟨t2, c2, k2, i2, x2⟩ := b
  simp only [sameE] at *
  by_cases h1 : t1 = t2
  · by_cases h2 : c1 = c2
    · by_cases h3 : k1 = k2
      · subst h3
        simp only [decide_true] at cq
        by_cases h4 : i1.toList = i2.toList
        · refine ACall.of (N := 38) tok Try.func99 rfl rfl rfl (by simp) ?_
          repeat' (first | with_reducible refine OutOK.done ?_ | refine thenQ_n ?_ | refine thenQ_r ?_ | refine thenQ_e ?_ | refine AW.seq ?_ | refine AW.reg tok (by simp [*]; rfl) ?_ | refine AW.ifB (by simp [*]; rfl) ?_ | refine IfG.t ?_ | refine IfG.f ?_ | (refine IfG.p (fun hg => ?_) (fun hg => ?_) <;> (try (have hg' := hg; simp at hg'))) | (refine IfG.n (fun hg => ?_) (fun hg => ?_) <;> (try (have hg' := hg; simp at hg'))) | (refine OutOK.gateP (fun hg => ?_) (fun hg => ?_) <;> (try (have hg' := hg; simp at hg'))) | (refine OutOK.gateN (fun hg => ?_) (fun hg => ?_) <;> (try (have hg' := hg; simp at hg'))) | (refine IfG.g (fun hg => ?_) (fun hg => ?_) <;> (try (have hg' := hg; simp at hg'))) | (refine OutOK.gate (fun hg => ?_) (fun hg => ?_) <;> (try (have hg' := hg; simp at hg'))) | (refine OutOK.callF [] (by simp [*]; rfl) (by simp [*]; rfl) (by simp [*]; rfl) hb130 (by apply cq <;> first | assumption | exact Hd.out (by assumption) | ((try (clear e0)); (try (clear e1)); (try (clear e2)); (try (clear e3)); (try (clear e4)); (try (clear e5)); (try (clear e6)); (try (clear e7)); (try (clear e8)); (try (clear e9)); (try (clear e10)); (try (clear e11)); omega)) ⟨by simp [*], by simp [*], by simp [*], by simp [*], by simp [*]⟩ (by simp [*]) (by simp [*]; rfl) ?_) | refine OutOK.run (by simp [*]; rfl) ?_ | refine AW.ret ?_ | refine AW.skip ?_ | refine AW.exit ?_ | refine fin_r ?_ | refine fin_n ?_ | refine AW.block ?_ | refine blockQ_n ?_ | refine blockQ_r ?_ | refine blockQ_e ?_ | refine blockQ_o rfl ?_)
          simp [Try.f99, *]
        · refine ACall.of (N := 38) tok Try.func99 rfl rfl rfl (by simp) ?_
          repeat' (first | with_reducible refine OutOK.done ?_ | refine thenQ_n ?_ | refine thenQ_r ?_ | refine thenQ_e ?_ | refine AW.seq ?_ | refine AW.reg tok (by simp [*]; rfl) ?_ | refine AW.ifB (by simp [*]; rfl) ?_ | refine IfG.t ?_ | refine IfG.f ?_ | (refine IfG.p (fun hg => ?_) (fun hg => ?_) <;> (try (have hg' := hg; simp at hg'))) | (refine IfG.n (fun hg => ?_) (fun hg => ?_) <;> (try (have hg' := hg; simp at hg'))) | (refine OutOK.gateP (fun hg => ?_) (fun hg => ?_) <;> (try (have hg' := hg; simp at hg'))) | (refine OutOK.gateN (fun hg => ?_) (fun hg => ?_) <;> (try (have hg' := hg; simp at hg'))) | (refine IfG.g (fun hg => ?_) (fun hg => ?_) <;> (try (have hg' := hg; simp at hg'))) | (refine OutOK.gate (fun hg => ?_) (fun hg => ?_) <;> (try (have hg' := hg; simp at hg'))) | (refine OutOK.callF [] (by simp [*]; rfl) (by simp [*]; rfl) (by simp [*]; rfl) hb130 (by apply cq <;> first | assumption | exact Hd.out (by assumption) | ((try (clear e0)); (try (clear e1)); (try (clear e2)); (try (clear e3)); (try (clear e4)); (try (clear e5)); (try (clear e6)); (try (clear e7)); (try (clear e8)); (try (clear e9)); (try (clear e10)); (try (clear e11)); omega)) ⟨by simp [*], by simp [*], by simp [*], by simp [*], by simp [*]⟩ (by simp [*]) (by simp [*]; rfl) ?_) | refine OutOK.run (by simp [*]; rfl) ?_ | refine AW.ret ?_ | refine AW.skip ?_ | refine AW.exit ?_ | refine fin_r ?_ | refine fin_n ?_ | refine AW.block ?_ | refine blockQ_n ?_ | refine blockQ_r ?_ | refine blockQ_e ?_ | refine blockQ_o rfl ?_)
          simp [Try.f99, *]
      · simp only [h3, decide_false] at cq
        refine ACall.of (N := 38) tok Try.func99 rfl rfl rfl (by simp) ?_
        repeat' (first | with_reducible refine OutOK.done ?_ | refine thenQ_n ?_ | refine thenQ_r ?_ | refine thenQ_e ?_ | refine AW.seq ?_ | refine AW.reg tok (by simp [*]; rfl) ?_ | refine AW.ifB (by simp [*]; rfl) ?_ | refine IfG.t ?_ | refine IfG.f ?_ | (refine IfG.p (fun hg => ?_) (fun hg => ?_) <;> (try (have hg' := hg; simp at hg'))) | (refine IfG.n (fun hg => ?_) (fun hg => ?_) <;> (try (have hg' := hg; simp at hg'))) | (refine OutOK.gateP (fun hg => ?_) (fun hg => ?_) <;> (try (have hg' := hg; simp at hg'))) | (refine OutOK.gateN (fun hg => ?_) (fun hg => ?_) <;> (try (have hg' := hg; simp at hg'))) | (refine IfG.g (fun hg => ?_) (fun hg => ?_) <;> (try (have hg' := hg; simp at hg'))) | (refine OutOK.gate (fun hg => ?_) (fun hg => ?_) <;> (try (have hg' := hg; simp at hg'))) | (refine OutOK.callF [] (by simp [*]; rfl) (by simp [*]; rfl) (by simp [*]; rfl) hb130 (by apply cq <;> first | assumption | exact Hd.out (by assumption) | ((try (clear e0)); (try (clear e1)); (try (clear e2)); (try (clear e3)); (try (clear e4)); (try (clear e5)); (try (clear e6)); (try (clear e7)); (try (clear e8)); (try (clear e9)); (try (clear e10)); (try (clear e11)); omega)) ⟨by simp [*], by simp [*], by simp [*], by simp [*], by simp [*]⟩ (by simp [*]) (by simp [*]; rfl) ?_) | refine OutOK.run (by simp [*]; rfl) ?_ | refine AW.ret ?_ | refine AW.skip ?_ | refine AW.exit ?_ | refine fin_r ?_ | refine fin_n ?_ | refine AW.block ?_ | refine blockQ_n ?_ | refine blockQ_r ?_ | refine blockQ_e ?_ | refine blockQ_o rfl ?_)
        simp [Try.f99, *]
    · refine ACall.of (N := 38) tok Try.func99 rfl rfl rfl (by simp) ?_
      repeat' (first | with_reducible refine OutOK.done ?_ | refine thenQ_n ?_ | refine thenQ_r ?_ | refine thenQ_e ?_ | refine AW.seq ?_ | refine AW.reg tok (by simp [*]; rfl) ?_ | refine AW.ifB (by simp [*]; rfl) ?_ | refine IfG.t ?_ | refine IfG.f ?_ | (refine IfG.p (fun hg => ?_) (fun hg => ?_) <;> (try (have hg' := hg; simp at hg'))) | (refine IfG.n (fun hg => ?_) (fun hg => ?_) <;> (try (have hg' := hg; simp at hg'))) | (refine OutOK.gateP (fun hg => ?_) (fun hg => ?_) <;> (try (have hg' := hg; simp at hg'))) | (refine OutOK.gateN (fun hg => ?_) (fun hg => ?_) <;> (try (have hg' := hg; simp at hg'))) | (refine IfG.g (fun hg => ?_) (fun hg => ?_) <;> (try (have hg' := hg; simp at hg'))) | (refine OutOK.gate (fun hg => ?_) (fun hg => ?_) <;> (try (have hg' := hg; simp at hg'))) | (refine OutOK.callF [] (by simp [*]; rfl) (by simp [*]; rfl) (by simp [*]; rfl) hb130 (by apply cq <;> first | assumption | exact Hd.out (by assumption) | ((try (clear e0)); (try (clear e1)); (try (clear e2)); (try (clear e3)); (try (clear e4)); (try (clear e5)); (try (clear e6)); (try (clear e7)); (try (clear e8)); (try (clear e9)); (try (clear e10)); (try (clear e11)); omega)) ⟨by simp [*], by simp [*], by simp [*], by simp [*], by simp [*]⟩ (by simp [*]) (by simp [*]; rfl) ?_) | refine OutOK.run (by simp [*]; rfl) ?_ | refine AW.ret ?_ | refine AW.skip ?_ | refine AW.exit ?_ | refine fin_r ?_ | refine fin_n ?_ | refine AW.block ?_ | refine blockQ_n ?_ | refine blockQ_r ?_ | refine blockQ_e ?_ | refine blockQ_o rfl ?_)
      simp [Try.f99, *]
  · refine ACall.of (N := 38) tok Try.func99 rfl rfl rfl (by simp) ?_
    repeat' (first | with_reducible refine OutOK.done ?_ | refine thenQ_n ?_ | refine thenQ_r ?_ | refine thenQ_e ?_ | refine AW.seq ?_ | refine AW.reg tok (by simp [*]; rfl) ?_ | refine AW.ifB (by simp [*]; rfl) ?_ | refine IfG.t ?_ | refine IfG.f ?_ | (refine IfG.p (fun hg => ?_) (fun hg => ?_) <;> (try (have hg' := hg; simp at hg'))) | (refine IfG.n (fun hg => ?_) (fun hg => ?_) <;> (try (have hg' := hg; simp at hg'))) | (refine OutOK.gateP (fun hg => ?_) (fun hg => ?_) <;> (try (have hg' := hg; simp at hg'))) | (refine OutOK.gateN (fun hg => ?_) (fun hg => ?_) <;> (try (have hg' := hg; simp at hg'))) | (refine IfG.g (fun hg => ?_) (fun hg => ?_) <;> (try (have hg' := hg; simp at hg'))) | (refine OutOK.gate (fun hg => ?_) (fun hg => ?_) <;> (try (have hg' := hg; simp at hg'))) | (refine OutOK.callF [] (by simp [*]; rfl) (by simp [*]; rfl) (by simp [*]; rfl) hb130 (by apply cq <;> first | assumption | exact Hd.out (by assumption) | ((try (clear e0)); (try (clear e1)); (try (clear e2)); (try (clear e3)); (try (clear e4)); (try (clear e5)); (try (clear e6)); (try (clear e7)); (try (clear e8)); (try (clear e9)); (try (clear e10)); (try (clear e11)); omega)) ⟨by simp [*], by simp [*], by simp [*], by simp [*], by simp [*]⟩ (by simp [*]) (by simp [*]; rfl) ?_) | refine OutOK.run (by simp [*]; rfl) ?_ | refine AW.ret ?_ | refine AW.skip ?_ | refine AW.exit ?_ | refine fin_r ?_ | refine fin_n ?_ | refine AW.block ?_ | refine blockQ_n ?_ | refine blockQ_r ?_ | refine blockQ_e ?_ | refine blockQ_o rfl ?_)
    simp [Try.f99, *]
end Go.Proofs.Ytbofobjofngoeaa.EngS


set_option linter.unusedSimpArgs false
set_option linter.unusedVariables false
set_option maxHeartbeats 4000000
set_option maxRecDepth 100000
namespace Go.Proofs.Ytbofobjofngoeaa.EngS
open Go Go.Proofs Go.Eng Go.RowKit
def joinL (a : List Edt) : List Edt → List Edt → Option (List Edt)
  | out, [] => some out
  | out, x :: r => if fndE a x.tm x.ct < 0 then joinL a (putL out x) r else if sameE (a[(fndE a x.tm x.ct).toNat]?.getD default) x = true then joinL a out r else none
theorem joinL_put {a out b : List Edt} {i : Nat} (h : i < b.length) (hf : fndE a b[i].tm b[i].ct < 0) : joinL a out (b.drop i) = joinL a (putL out b[i]) (b.drop (i + 1)) := by
  rw [List.drop_eq_getElem_cons h, joinL, if_pos hf]
theorem joinL_same {a out b : List Edt} {i k : Nat} (h : i < b.length) (hf : fndE a b[i].tm b[i].ct = (k : Int)) (hk : k < a.length) (hs : sameE a[k] b[i] = true) : joinL a out (b.drop i) = joinL a out (b.drop (i + 1)) := by
  rw [List.drop_eq_getElem_cons h, joinL, if_neg (by omega), hf]
  simp [hk, hs]
theorem joinL_no {a out b : List Edt} {i k : Nat} (h : i < b.length) (hf : fndE a b[i].tm b[i].ct = (k : Int)) (hk : k < a.length) (hs : sameE a[k] b[i] = false) : joinL a out (b.drop i) = none := by
  rw [List.drop_eq_getElem_cons h, joinL, if_neg (by omega), hf]
  simp [hk, hs]
noncomputable def mrgO (a b : List Edt) (n : Int) : Option (List Edt) := if (hist a n && hist b n) = true then joinL a a b else none
noncomputable def mrgB (a b : List Edt) (n : Int) : Bool := match mrgO a b n with
  | some m => hist m n
  | none => false
noncomputable def mrgR (a b : List Edt) (n : Int) : List Edt := if mrgB a b n = true then (mrgO a b n).getD [] else []
theorem mrg_none {a b : List Edt} {n : Int} (h : mrgO a b n = none) : mrgB a b n = false ∧ mrgR a b n = [] := by
  have : mrgB a b n = false := by simp [mrgB, h]
  exact ⟨this, by simp [mrgR, this]⟩
theorem mrg_some {a b m : List Edt} {n : Int} (h : mrgO a b n = some m) : mrgB a b n = hist m n ∧ mrgR a b n = if hist m n = true then m else [] := by
  have : mrgB a b n = hist m n := by simp [mrgB, h]
  refine ⟨this, ?_⟩
  rw [mrgR, this, h]
  simp
theorem putL_mem {l : List Edt} {e x : Edt} : x ∈ putL l e ↔ x = e ∨ x ∈ l := by
  rw [(putL_perm l e).mem_iff]; simp
theorem c_spec_MergeHistories (a b : List Edt) (n : Int) (h : a.length ≤ 1048576) (hb : ∀ e ∈ a, EdtB e) (h' : b.length ≤ 1048576) (hb' : ∀ e ∈ b, EdtB e) :
    ACall Try.prog 49 [.v (.sl true 5 (edts true a)), .v (.sl true 5 (edts true b)), int n] [.x, .x, .x] [.v (.sl false 5 (edts false (mrgR a b n))), boo (mrgB a b n)] := by
  have ca := c_spec_l22Good a n (by omega) (fun e he => (hb e he).w)
  have cb := c_spec_l22Good b n (by omega) (fun e he => (hb' e he).w)
  by_cases hH : (hist a n && hist b n) = true
  case neg =>
    have hm : mrgO a b n = none := by simp only [mrgO, if_neg hH]
    obtain ⟨m1, m2⟩ := mrg_none hm
    rw [m1, m2]
    cases hA : hist a n
    · rw [hA] at ca
      clear hb hb' hm m1 m2 hH hA
      generalize hist b n = B at *
      refine ACall.of (N := 85) tok Try.func49 rfl rfl rfl (by simp) ?_
      repeat' (first | with_reducible refine OutOK.done ?_ | refine thenQ_n ?_ | refine thenQ_r ?_ | refine thenQ_e ?_ | refine AW.seq ?_ | refine AW.dreg tok mixed [10]  [(0, false), (1, false), (2, false), (3, false), (4, false), (6, false), (7, false), (8, false), (9, false), (5, false), (10, true), (11, false), (12, false)] (by decide +kernel) rfl (by simp [*]; rfl) ?_ | refine AW.dreg tok mixed [10]  [(0, false), (1, false), (2, false), (3, false), (4, false), (5, false), (7, false), (8, false), (9, false), (6, false), (10, true), (11, false), (12, false), (13, false)] (by decide +kernel) rfl (by simp [*]; rfl) ?_ | refine AW.reg tok (by simp [*]; rfl) ?_ | refine AW.ifB (by simp [*]; rfl) ?_ | refine IfG.t ?_ | refine IfG.f ?_ | (refine IfG.p (fun hg => ?_) (fun hg => ?_) <;> (try (have hg' := hg; simp at hg'))) | (refine IfG.n (fun hg => ?_) (fun hg => ?_) <;> (try (have hg' := hg; simp at hg'))) | (refine OutOK.gateP (fun hg => ?_) (fun hg => ?_) <;> (try (have hg' := hg; simp at hg'))) | (refine OutOK.gateN (fun hg => ?_) (fun hg => ?_) <;> (try (have hg' := hg; simp at hg'))) | (refine IfG.g (fun hg => ?_) (fun hg => ?_) <;> (try (have hg' := hg; simp at hg'))) | (refine OutOK.gate (fun hg => ?_) (fun hg => ?_) <;> (try (have hg' := hg; simp at hg'))) | (refine OutOK.callF [] (by simp [*]; rfl) (by simp [*]; rfl) (by simp [*]; rfl) hb74 (by apply ca <;> first | assumption | exact Hd.out (by assumption) | ((try (clear e0)); (try (clear e1)); (try (clear e2)); (try (clear e3)); (try (clear e4)); (try (clear e5)); (try (clear e6)); (try (clear e7)); (try (clear e8)); (try (clear e9)); (try (clear e10)); (try (clear e11)); omega)) ⟨by simp [*], by simp [*], by simp [*], by simp [*], by simp [*]⟩ (by simp [*]) (by simp [*]; rfl) ?_) | refine OutOK.run (by simp [*]; rfl) ?_ | refine AW.ret ?_ | refine AW.skip ?_ | refine AW.exit ?_ | refine fin_r ?_ | refine fin_n ?_ | refine AW.block ?_ | refine blockQ_n ?_ | refine blockQ_r ?_ | refine blockQ_e ?_ | refine blockQ_o rfl ?_)
      simp [Try.f49]
    · have hB : hist b n = false := by rw [hA] at hH; simpa using hH
      rw [hA] at ca
      rw [hB] at cb
      clear hb hb' hm m1 m2 hH hA hB
      refine ACall.of (N := 85) tok Try.func49 rfl rfl rfl (by simp) ?_
      repeat' (first | with_reducible refine OutOK.done ?_ | refine thenQ_n ?_ | refine thenQ_r ?_ | refine thenQ_e ?_ | refine AW.seq ?_ | refine AW.dreg tok mixed [10]  [(0, false), (1, false), (2, false), (3, false), (4, false), (6, false), (7, false), (8, false), (9, false), (5, false), (10, true), (11, false), (12, false)] (by decide +kernel) rfl (by simp [*]; rfl) ?_ | refine AW.dreg tok mixed [10]  [(0, false), (1, false), (2, false), (3, false), (4, false), (5, false), (7, false), (8, false), (9, false), (6, false), (10, true), (11, false), (12, false), (13, false)] (by decide +kernel) rfl (by simp [*]; rfl) ?_ | refine AW.reg tok (by simp [*]; rfl) ?_ | refine AW.ifB (by simp [*]; rfl) ?_ | refine IfG.t ?_ | refine IfG.f ?_ | (refine IfG.p (fun hg => ?_) (fun hg => ?_) <;> (try (have hg' := hg; simp at hg'))) | (refine IfG.n (fun hg => ?_) (fun hg => ?_) <;> (try (have hg' := hg; simp at hg'))) | (refine OutOK.gateP (fun hg => ?_) (fun hg => ?_) <;> (try (have hg' := hg; simp at hg'))) | (refine OutOK.gateN (fun hg => ?_) (fun hg => ?_) <;> (try (have hg' := hg; simp at hg'))) | (refine IfG.g (fun hg => ?_) (fun hg => ?_) <;> (try (have hg' := hg; simp at hg'))) | (refine OutOK.gate (fun hg => ?_) (fun hg => ?_) <;> (try (have hg' := hg; simp at hg'))) | (refine OutOK.callF [] (by simp [*]; rfl) (by simp [*]; rfl) (by simp [*]; rfl) hb74 (by apply ca <;> first | assumption | exact Hd.out (by assumption) | ((try (clear e0)); (try (clear e1)); (try (clear e2)); (try (clear e3)); (try (clear e4)); (try (clear e5)); (try (clear e6)); (try (clear e7)); (try (clear e8)); (try (clear e9)); (try (clear e10)); (try (clear e11)); omega)) ⟨by simp [*], by simp [*], by simp [*], by simp [*], by simp [*]⟩ (by simp [*]) (by simp [*]; rfl) ?_) | (refine OutOK.callF [] (by simp [*]; rfl) (by simp [*]; rfl) (by simp [*]; rfl) hb74 (by apply cb <;> first | assumption | exact Hd.out (by assumption) | ((try (clear e0)); (try (clear e1)); (try (clear e2)); (try (clear e3)); (try (clear e4)); (try (clear e5)); (try (clear e6)); (try (clear e7)); (try (clear e8)); (try (clear e9)); (try (clear e10)); (try (clear e11)); omega)) ⟨by simp [*], by simp [*], by simp [*], by simp [*], by simp [*]⟩ (by simp [*]) (by simp [*]; rfl) ?_) | refine OutOK.run (by simp [*]; rfl) ?_ | refine AW.ret ?_ | refine AW.skip ?_ | refine AW.exit ?_ | refine fin_r ?_ | refine fin_n ?_ | refine AW.block ?_ | refine blockQ_n ?_ | refine blockQ_r ?_ | refine blockQ_e ?_ | refine blockQ_o rfl ?_)
      simp [Try.f49]
  have hA : hist a n = true := by simp at hH; exact hH.1
  have hB : hist b n = true := by simp at hH; exact hH.2
  have hm : Hd (mrgO a b n = joinL a a b) := by simp only [Hd, mrgO, if_pos hH]
  have hal := hist_len hA
  have hbl := hist_len hB
  rw [hA] at ca
  rw [hB] at cb
  obtain ⟨R, hR⟩ : ∃ R, Hd (mrgR a b n = R) := ⟨_, rfl⟩
  obtain ⟨B, hBB⟩ : ∃ B, Hd (mrgB a b n = B) := ⟨_, rfl⟩
  rw [hR.out, hBB.out]
  have hb1 : Hd _ := hb
  have hb2 : Hd _ := hb'
  clear hb hb' hA hB hH
  refine ACall.of (N := 85) tok Try.func49 rfl rfl rfl (by simp) ?_
  repeat' (first | with_reducible refine OutOK.done ?_ | refine thenQ_n ?_ | refine thenQ_r ?_ | refine thenQ_e ?_ | refine AW.seq ?_ | refine AW.dreg tok mixed [10]  [(0, false), (1, false), (2, false), (3, false), (4, false), (6, false), (7, false), (8, false), (9, false), (5, false), (10, true), (11, false), (12, false)] (by decide +kernel) rfl (by simp [*]; rfl) ?_ | refine AW.dreg tok mixed [10]  [(0, false), (1, false), (2, false), (3, false), (4, false), (5, false), (7, false), (8, false), (9, false), (6, false), (10, true), (11, false), (12, false), (13, false)] (by decide +kernel) rfl (by simp [*]; rfl) ?_ | refine AW.reg tok (by simp [*]; rfl) ?_ | refine AW.ifB (by simp [*]; rfl) ?_ | refine IfG.t ?_ | refine IfG.f ?_ | (refine IfG.p (fun hg => ?_) (fun hg => ?_) <;> (try (have hg' := hg; simp at hg'))) | (refine IfG.n (fun hg => ?_) (fun hg => ?_) <;> (try (have hg' := hg; simp at hg'))) | (refine OutOK.gateP (fun hg => ?_) (fun hg => ?_) <;> (try (have hg' := hg; simp at hg'))) | (refine OutOK.gateN (fun hg => ?_) (fun hg => ?_) <;> (try (have hg' := hg; simp at hg'))) | (refine IfG.g (fun hg => ?_) (fun hg => ?_) <;> (try (have hg' := hg; simp at hg'))) | (refine OutOK.gate (fun hg => ?_) (fun hg => ?_) <;> (try (have hg' := hg; simp at hg'))) | (refine OutOK.callF [] (by simp [*]; rfl) (by simp [*]; rfl) (by simp [*]; rfl) hb74 (by apply ca <;> first | assumption | exact Hd.out (by assumption) | ((try (clear e0)); (try (clear e1)); (try (clear e2)); (try (clear e3)); (try (clear e4)); (try (clear e5)); (try (clear e6)); (try (clear e7)); (try (clear e8)); (try (clear e9)); (try (clear e10)); (try (clear e11)); omega)) ⟨by simp [*], by simp [*], by simp [*], by simp [*], by simp [*]⟩ (by simp [*]) (by simp [*]; rfl) ?_) | (refine OutOK.callF [] (by simp [*]; rfl) (by simp [*]; rfl) (by simp [*]; rfl) hb74 (by apply cb <;> first | assumption | exact Hd.out (by assumption) | ((try (clear e0)); (try (clear e1)); (try (clear e2)); (try (clear e3)); (try (clear e4)); (try (clear e5)); (try (clear e6)); (try (clear e7)); (try (clear e8)); (try (clear e9)); (try (clear e10)); (try (clear e11)); omega)) ⟨by simp [*], by simp [*], by simp [*], by simp [*], by simp [*]⟩ (by simp [*]) (by simp [*]; rfl) ?_) | refine OutOK.run (by simp [*]; rfl) ?_ | refine AW.ret ?_ | refine AW.skip ?_ | refine AW.exit ?_ | refine fin_r ?_ | refine fin_n ?_ | refine AW.block ?_ | refine blockQ_n ?_ | refine blockQ_r ?_ | refine blockQ_e ?_ | refine blockQ_o rfl ?_)
  clear ca cb
  refine AW.loopS (α := Nat) (fun i => i ≤ a.length) (fun i => [(0, .c (.sl true 5 (edts true a))), (1, .c (.sl true 5 (edts true b))), (2, .c (.sc (.int .i64 n))), (8, .rf 37000 []), (9, .c (.sc (.int .i64 (i : Int))))]) (fun i => [(37000, .sv (.sl false 5 (edts false (a.take i))))]) (fun i => a.length - i) 0 (Nat.zero_le _) [(23000, 37000)] (by simp) ⟨by simp, by simp, by simp⟩ ?_
  intro i hi
  rcases Nat.lt_or_ge i a.length with hl | hl
  · have e2 : wrap64 ((i : Int) + 1) = ((i + 1 : Nat) : Int) := by rw [w64 (by omega) (by omega)]; omega
    have cy := c_spec_l22Copy a[i] (hb1.out _ (List.getElem_mem hl)).1
    have hts : Hd (a.take (i + 1) = a.take i ++ [a[i]]) := List.take_succ_eq_append_getElem hl
    have htl : (a.take i).length ≤ 100 := Nat.le_trans (List.length_take_le i a) (by omega)
    generalize a.take i = s1 at *
    have b1 : (s1.length + 1) * 72 ≤ 140737488355328 := by ((try (clear e0)); (try (clear e1)); (try (clear e2)); (try (clear e3)); (try (clear e4)); (try (clear e5)); (try (clear e6)); (try (clear e7)); (try (clear e8)); (try (clear e9)); (try (clear e10)); (try (clear e11)); omega)
    have b2 : s1.length + 1 ≤ 4611686018427387904 := by ((try (clear e0)); (try (clear e1)); (try (clear e2)); (try (clear e3)); (try (clear e4)); (try (clear e5)); (try (clear e6)); (try (clear e7)); (try (clear e8)); (try (clear e9)); (try (clear e10)); (try (clear e11)); omega)
    obtain ⟨tm, ct2, ck, it, tx, he⟩ : ∃ tm ct ck it tx, a[i] = ⟨tm, ct, ck, it, tx⟩ := ⟨_, _, _, _, _, rfl⟩
    rw [he] at cy hts
    repeat' (first | with_reducible refine OutOK.done ?_ | refine thenQ_n ?_ | refine thenQ_r ?_ | refine thenQ_e ?_ | refine AW.seq ?_ | refine AW.dreg tok mixed [10]  [(0, false), (1, false), (2, false), (3, false), (4, false), (6, false), (7, false), (8, false), (9, false), (5, false), (10, true), (11, false), (12, false)] (by decide +kernel) rfl (by simp [*]; rfl) ?_ | refine AW.dreg tok mixed [10]  [(0, false), (1, false), (2, false), (3, false), (4, false), (5, false), (7, false), (8, false), (9, false), (6, false), (10, true), (11, false), (12, false), (13, false)] (by decide +kernel) rfl (by simp [*]; rfl) ?_ | refine AW.reg tok (by simp [*]; rfl) ?_ | refine AW.ifB (by simp [*]; rfl) ?_ | refine IfG.t ?_ | refine IfG.f ?_ | (refine IfG.p (fun hg => ?_) (fun hg => ?_) <;> (try (have hg' := hg; simp at hg'))) | (refine IfG.n (fun hg => ?_) (fun hg => ?_) <;> (try (have hg' := hg; simp at hg'))) | (refine OutOK.gateP (fun hg => ?_) (fun hg => ?_) <;> (try (have hg' := hg; simp at hg'))) | (refine OutOK.gateN (fun hg => ?_) (fun hg => ?_) <;> (try (have hg' := hg; simp at hg'))) | (refine IfG.g (fun hg => ?_) (fun hg => ?_) <;> (try (have hg' := hg; simp at hg'))) | (refine OutOK.gate (fun hg => ?_) (fun hg => ?_) <;> (try (have hg' := hg; simp at hg'))) | (refine OutOK.callF [] (by simp [*]; rfl) (by simp [*]; rfl) (by simp [*]; rfl) hb91 (by apply cy <;> first | assumption | exact Hd.out (by assumption) | ((try (clear e0)); (try (clear e1)); (try (clear e2)); (try (clear e3)); (try (clear e4)); (try (clear e5)); (try (clear e6)); (try (clear e7)); (try (clear e8)); (try (clear e9)); (try (clear e10)); (try (clear e11)); omega)) ⟨by simp [*], by simp [*], by simp [*], by simp [*], by simp [*]⟩ (by simp [*]) (by simp [*]; rfl) ?_) | refine OutOK.run (by simp [*]; rfl) ?_ | refine AW.ret ?_ | refine AW.skip ?_ | refine AW.exit ?_ | refine fin_r ?_ | refine fin_n ?_ | refine AW.block ?_ | refine blockQ_n ?_ | refine blockQ_r ?_ | refine blockQ_e ?_ | refine blockQ_o rfl ?_)
    exact ⟨i + 1, hl, ⟨[], by simp, by simp, by simp [hts.out], by simp⟩, by ((try (clear e0)); (try (clear e1)); (try (clear e2)); (try (clear e3)); (try (clear e4)); (try (clear e5)); (try (clear e6)); (try (clear e7)); (try (clear e8)); (try (clear e9)); (try (clear e10)); (try (clear e11)); omega)⟩
  have hin : ¬ i < a.length := by omega
  rw [List.take_of_length_le hl]
  clear hi hl
  repeat' (first | with_reducible refine OutOK.done ?_ | refine thenQ_n ?_ | refine thenQ_r ?_ | refine thenQ_e ?_ | refine AW.seq ?_ | refine AW.dreg tok mixed [10]  [(0, false), (1, false), (2, false), (3, false), (4, false), (6, false), (7, false), (8, false), (9, false), (5, false), (10, true), (11, false), (12, false)] (by decide +kernel) rfl (by simp [*]; rfl) ?_ | refine AW.dreg tok mixed [10]  [(0, false), (1, false), (2, false), (3, false), (4, false), (5, false), (7, false), (8, false), (9, false), (6, false), (10, true), (11, false), (12, false), (13, false)] (by decide +kernel) rfl (by simp [*]; rfl) ?_ | refine AW.reg tok (by simp [*]; rfl) ?_ | refine AW.ifB (by simp [*]; rfl) ?_ | refine IfG.t ?_ | refine IfG.f ?_ | (refine IfG.p (fun hg => ?_) (fun hg => ?_) <;> (try (have hg' := hg; simp at hg'))) | (refine IfG.n (fun hg => ?_) (fun hg => ?_) <;> (try (have hg' := hg; simp at hg'))) | (refine OutOK.gateP (fun hg => ?_) (fun hg => ?_) <;> (try (have hg' := hg; simp at hg'))) | (refine OutOK.gateN (fun hg => ?_) (fun hg => ?_) <;> (try (have hg' := hg; simp at hg'))) | (refine IfG.g (fun hg => ?_) (fun hg => ?_) <;> (try (have hg' := hg; simp at hg'))) | (refine OutOK.gate (fun hg => ?_) (fun hg => ?_) <;> (try (have hg' := hg; simp at hg'))) | refine OutOK.run (by simp [*]; rfl) ?_ | refine AW.ret ?_ | refine AW.skip ?_ | refine AW.exit ?_ | refine fin_r ?_ | refine fin_n ?_ | refine AW.block ?_ | refine blockQ_n ?_ | refine blockQ_r ?_ | refine blockQ_e ?_ | refine blockQ_o rfl ?_)
  refine AW.loopS (α := Nat × List Edt) (fun q => q.1 ≤ b.length ∧ q.2.length ≤ a.length + q.1 ∧ Hd (joinL a a b = joinL a q.2 (b.drop q.1)) ∧ Hd (∀ e ∈ q.2, EdtB e)) (fun q => [(0, .c (.sl true 5 (edts true a))), (1, .c (.sl true 5 (edts true b))), (2, .c (.sc (.int .i64 n))), (8, .rf 37000 []), (10, .c (.sc (.int .i64 (q.1 : Int))))]) (fun q => [(37000, .sv (.sl false 5 (edts false q.2)))]) (fun q => b.length - q.1) (0, a) ⟨Nat.zero_le _, by simp, by simp [Hd], hb1⟩ [] (by simp) ⟨by simp, by simp, by simp⟩ ?_
  rintro ⟨j, out⟩ ⟨hj, hol, hjo, hob⟩
  simp only at hj hol hjo hob
  clear hin
  rcases Nat.lt_or_ge j b.length with hl | hl
  · have e2 : wrap64 ((j : Int) + 1) = ((j + 1 : Nat) : Int) := by rw [w64 (by omega) (by omega)]; omega
    have cf := c_spec_l22Find a b[j].tm b[j].ct (by omega)
    have hbj := hb2.out _ (List.getElem_mem hl)
    have cp := c_spec_l22Put out b[j] (by omega) (fun e he => (hob.out e he).1) hbj.1
    have hpm : Hd (∀ e ∈ putL out b[j], EdtB e) := fun e he => by
      rcases putL_mem.1 he with rfl | he
      · exact hbj
      · exact hob.out e he
    have hpl := putL_len out b[j]
    have j1 := fun hf => joinL_put (a := a) (out := out) hl hf
    have j2 := fun k hf hk hs => joinL_same (a := a) (out := out) (k := k) hl hf hk hs
    have j3 := fun k hf hk hs => joinL_no (a := a) (out := out) (k := k) hl hf hk hs
    have cs := fun k (hk : k < a.length) => c_spec_l22Same a[k] b[j] (by have := (hb1.out _ (List.getElem_mem hk)).1; omega)
    have hfc := idx_cases (keyE b[j].tm b[j].ct) a
    rw [show idx (keyE b[j].tm b[j].ct) a = fndE a b[j].tm b[j].ct from rfl] at hfc
    obtain ⟨tm, ct2, ck, it, tx, he⟩ : ∃ tm ct ck it tx, b[j] = ⟨tm, ct, ck, it, tx⟩ := ⟨_, _, _, _, _, rfl⟩
    simp only [he] at cf cp hpm hpl j1 j2 j3 cs hfc
    clear hbj
    generalize putL out ⟨tm, ct2, ck, it, tx⟩ = PO at *
    generalize fndE a tm ct2 = F at *
    rcases hfc with hf | ⟨k, rfl, hk⟩
    · have hq := hjo.out.trans (j1 hf)
      replace hq : Hd _ := hq
      have hf' : ¬ 0 ≤ F := by omega
      clear j1 j2 j3 cs
      repeat' (first | with_reducible refine OutOK.done ?_ | refine thenQ_n ?_ | refine thenQ_r ?_ | refine thenQ_e ?_ | refine AW.seq ?_ | refine AW.dreg tok mixed [10]  [(0, false), (1, false), (2, false), (3, false), (4, false), (6, false), (7, false), (8, false), (9, false), (5, false), (10, true), (11, false), (12, false)] (by decide +kernel) rfl (by simp [*]; rfl) ?_ | refine AW.dreg tok mixed [10]  [(0, false), (1, false), (2, false), (3, false), (4, false), (5, false), (7, false), (8, false), (9, false), (6, false), (10, true), (11, false), (12, false), (13, false)] (by decide +kernel) rfl (by simp [*]; rfl) ?_ | refine AW.reg tok (by simp [*]; rfl) ?_ | refine AW.ifB (by simp [*]; rfl) ?_ | refine IfG.t ?_ | refine IfG.f ?_ | (refine IfG.p (fun hg => ?_) (fun hg => ?_) <;> (try (have hg' := hg; simp at hg'))) | (refine IfG.n (fun hg => ?_) (fun hg => ?_) <;> (try (have hg' := hg; simp at hg'))) | (refine OutOK.gateP (fun hg => ?_) (fun hg => ?_) <;> (try (have hg' := hg; simp at hg'))) | (refine OutOK.gateN (fun hg => ?_) (fun hg => ?_) <;> (try (have hg' := hg; simp at hg'))) | (refine IfG.g (fun hg => ?_) (fun hg => ?_) <;> (try (have hg' := hg; simp at hg'))) | (refine OutOK.gate (fun hg => ?_) (fun hg => ?_) <;> (try (have hg' := hg; simp at hg'))) | (refine OutOK.callF [] (by simp [*]; rfl) (by simp [*]; rfl) (by simp [*]; rfl) hb89 (by apply cf <;> first | assumption | exact Hd.out (by assumption) | ((try (clear e0)); (try (clear e1)); (try (clear e2)); (try (clear e3)); (try (clear e4)); (try (clear e5)); (try (clear e6)); (try (clear e7)); (try (clear e8)); (try (clear e9)); (try (clear e10)); (try (clear e11)); omega)) ⟨by simp [*], by simp [*], by simp [*], by simp [*], by simp [*]⟩ (by simp [*]) (by simp [*]; rfl) ?_) | (refine OutOK.callF [] (by simp [*]; rfl) (by simp [*]; rfl) (by simp [*]; rfl) hb100 (by apply cp <;> first | assumption | exact Hd.out (by assumption) | ((try (clear e0)); (try (clear e1)); (try (clear e2)); (try (clear e3)); (try (clear e4)); (try (clear e5)); (try (clear e6)); (try (clear e7)); (try (clear e8)); (try (clear e9)); (try (clear e10)); (try (clear e11)); omega)) ⟨by simp [*], by simp [*], by simp [*], by simp [*], by simp [*]⟩ (by simp [*]) (by simp [*]; rfl) ?_) | refine OutOK.run (by simp [*]; rfl) ?_ | refine AW.ret ?_ | refine AW.skip ?_ | refine AW.exit ?_ | refine fin_r ?_ | refine fin_n ?_ | refine AW.block ?_ | refine blockQ_n ?_ | refine blockQ_r ?_ | refine blockQ_e ?_ | refine blockQ_o rfl ?_)
      exact ⟨(j + 1, PO), ⟨hl, by simp only; ((try (clear e0)); (try (clear e1)); (try (clear e2)); (try (clear e3)); (try (clear e4)); (try (clear e5)); (try (clear e6)); (try (clear e7)); (try (clear e8)); (try (clear e9)); (try (clear e10)); (try (clear e11)); omega), hq, hpm⟩, ⟨[(78000, 37000)], by simp, by simp, by simp, by simp⟩, by simp only; ((try (clear e0)); (try (clear e1)); (try (clear e2)); (try (clear e3)); (try (clear e4)); (try (clear e5)); (try (clear e6)); (try (clear e7)); (try (clear e8)); (try (clear e9)); (try (clear e10)); (try (clear e11)); omega)⟩
    · have hck := cs k hk
      have hf1 : ¬ (k : Int) < 0 := by omega
      have hf2 : 0 ≤ (k : Int) := by omega
      cases hS : sameE a[k] ⟨tm, ct2, ck, it, tx⟩
      · rw [hS] at hck
        obtain ⟨m1, m2⟩ := mrg_none (hm.out.trans (hjo.out.trans (j3 k rfl hk hS)))
        have r1 := hR.out
        have r2 := hBB.out
        rw [m2] at r1
        rw [m1] at r2
        subst r1 r2
        clear j1 j2 j3 cs hS m1 m2 cp hpl
        repeat' (first | with_reducible refine OutOK.done ?_ | refine thenQ_n ?_ | refine thenQ_r ?_ | refine thenQ_e ?_ | refine AW.seq ?_ | refine AW.dreg tok mixed [10]  [(0, false), (1, false), (2, false), (3, false), (4, false), (6, false), (7, false), (8, false), (9, false), (5, false), (10, true), (11, false), (12, false)] (by decide +kernel) rfl (by simp [*]; rfl) ?_ | refine AW.dreg tok mixed [10]  [(0, false), (1, false), (2, false), (3, false), (4, false), (5, false), (7, false), (8, false), (9, false), (6, false), (10, true), (11, false), (12, false), (13, false)] (by decide +kernel) rfl (by simp [*]; rfl) ?_ | refine AW.reg tok (by simp [*]; rfl) ?_ | refine AW.ifB (by simp [*]; rfl) ?_ | refine IfG.t ?_ | refine IfG.f ?_ | (refine IfG.p (fun hg => ?_) (fun hg => ?_) <;> (try (have hg' := hg; simp at hg'))) | (refine IfG.n (fun hg => ?_) (fun hg => ?_) <;> (try (have hg' := hg; simp at hg'))) | (refine OutOK.gateP (fun hg => ?_) (fun hg => ?_) <;> (try (have hg' := hg; simp at hg'))) | (refine OutOK.gateN (fun hg => ?_) (fun hg => ?_) <;> (try (have hg' := hg; simp at hg'))) | (refine IfG.g (fun hg => ?_) (fun hg => ?_) <;> (try (have hg' := hg; simp at hg'))) | (refine OutOK.gate (fun hg => ?_) (fun hg => ?_) <;> (try (have hg' := hg; simp at hg'))) | (refine OutOK.callF [] (by simp [*]; rfl) (by simp [*]; rfl) (by simp [*]; rfl) hb89 (by apply cf <;> first | assumption | exact Hd.out (by assumption) | ((try (clear e0)); (try (clear e1)); (try (clear e2)); (try (clear e3)); (try (clear e4)); (try (clear e5)); (try (clear e6)); (try (clear e7)); (try (clear e8)); (try (clear e9)); (try (clear e10)); (try (clear e11)); omega)) ⟨by simp [*], by simp [*], by simp [*], by simp [*], by simp [*]⟩ (by simp [*]) (by simp [*]; rfl) ?_) | (refine OutOK.callF [] (by simp [*]; rfl) (by simp [*]; rfl) (by simp [*]; rfl) hb99 (by apply hck <;> first | assumption | exact Hd.out (by assumption) | ((try (clear e0)); (try (clear e1)); (try (clear e2)); (try (clear e3)); (try (clear e4)); (try (clear e5)); (try (clear e6)); (try (clear e7)); (try (clear e8)); (try (clear e9)); (try (clear e10)); (try (clear e11)); omega)) ⟨by simp [*], by simp [*], by simp [*], by simp [*], by simp [*]⟩ (by simp [*]) (by simp [*]; rfl) ?_) | refine OutOK.run (by simp [*]; rfl) ?_ | refine AW.ret ?_ | refine AW.skip ?_ | refine AW.exit ?_ | refine fin_r ?_ | refine fin_n ?_ | refine AW.block ?_ | refine blockQ_n ?_ | refine blockQ_r ?_ | refine blockQ_e ?_ | refine blockQ_o rfl ?_)
        simp [Try.f49]
      · rw [hS] at hck
        have hq := hjo.out.trans (j2 k rfl hk hS)
        replace hq : Hd _ := hq
        clear j1 j2 j3 cs hS cp hpl
        repeat' (first | with_reducible refine OutOK.done ?_ | refine thenQ_n ?_ | refine thenQ_r ?_ | refine thenQ_e ?_ | refine AW.seq ?_ | refine AW.dreg tok mixed [10]  [(0, false), (1, false), (2, false), (3, false), (4, false), (6, false), (7, false), (8, false), (9, false), (5, false), (10, true), (11, false), (12, false)] (by decide +kernel) rfl (by simp [*]; rfl) ?_ | refine AW.dreg tok mixed [10]  [(0, false), (1, false), (2, false), (3, false), (4, false), (5, false), (7, false), (8, false), (9, false), (6, false), (10, true), (11, false), (12, false), (13, false)] (by decide +kernel) rfl (by simp [*]; rfl) ?_ | refine AW.reg tok (by simp [*]; rfl) ?_ | refine AW.ifB (by simp [*]; rfl) ?_ | refine IfG.t ?_ | refine IfG.f ?_ | (refine IfG.p (fun hg => ?_) (fun hg => ?_) <;> (try (have hg' := hg; simp at hg'))) | (refine IfG.n (fun hg => ?_) (fun hg => ?_) <;> (try (have hg' := hg; simp at hg'))) | (refine OutOK.gateP (fun hg => ?_) (fun hg => ?_) <;> (try (have hg' := hg; simp at hg'))) | (refine OutOK.gateN (fun hg => ?_) (fun hg => ?_) <;> (try (have hg' := hg; simp at hg'))) | (refine IfG.g (fun hg => ?_) (fun hg => ?_) <;> (try (have hg' := hg; simp at hg'))) | (refine OutOK.gate (fun hg => ?_) (fun hg => ?_) <;> (try (have hg' := hg; simp at hg'))) | (refine OutOK.callF [] (by simp [*]; rfl) (by simp [*]; rfl) (by simp [*]; rfl) hb89 (by apply cf <;> first | assumption | exact Hd.out (by assumption) | ((try (clear e0)); (try (clear e1)); (try (clear e2)); (try (clear e3)); (try (clear e4)); (try (clear e5)); (try (clear e6)); (try (clear e7)); (try (clear e8)); (try (clear e9)); (try (clear e10)); (try (clear e11)); omega)) ⟨by simp [*], by simp [*], by simp [*], by simp [*], by simp [*]⟩ (by simp [*]) (by simp [*]; rfl) ?_) | (refine OutOK.callF [] (by simp [*]; rfl) (by simp [*]; rfl) (by simp [*]; rfl) hb99 (by apply hck <;> first | assumption | exact Hd.out (by assumption) | ((try (clear e0)); (try (clear e1)); (try (clear e2)); (try (clear e3)); (try (clear e4)); (try (clear e5)); (try (clear e6)); (try (clear e7)); (try (clear e8)); (try (clear e9)); (try (clear e10)); (try (clear e11)); omega)) ⟨by simp [*], by simp [*], by simp [*], by simp [*], by simp [*]⟩ (by simp [*]) (by simp [*]; rfl) ?_) | refine OutOK.run (by simp [*]; rfl) ?_ | refine AW.ret ?_ | refine AW.skip ?_ | refine AW.exit ?_ | refine fin_r ?_ | refine fin_n ?_ | refine AW.block ?_ | refine blockQ_n ?_ | refine blockQ_r ?_ | refine blockQ_e ?_ | refine blockQ_o rfl ?_)
        exact ⟨(j + 1, out), ⟨hl, by simp only; ((try (clear e0)); (try (clear e1)); (try (clear e2)); (try (clear e3)); (try (clear e4)); (try (clear e5)); (try (clear e6)); (try (clear e7)); (try (clear e8)); (try (clear e9)); (try (clear e10)); (try (clear e11)); omega), hq, hob⟩, ⟨[], by simp, by simp, by simp, by simp⟩, by simp only; ((try (clear e0)); (try (clear e1)); (try (clear e2)); (try (clear e3)); (try (clear e4)); (try (clear e5)); (try (clear e6)); (try (clear e7)); (try (clear e8)); (try (clear e9)); (try (clear e10)); (try (clear e11)); omega)⟩
  · have hjn : ¬ j < b.length := by omega
    have hq := hm.out.trans hjo.out
    rw [List.drop_eq_nil_of_le hl, joinL] at hq
    obtain ⟨m1, m2⟩ := mrg_some hq
    have cg := c_spec_l22Good out n (by omega) (fun e he => (hob.out e he).w)
    have r1 := hR.out
    have r2 := hBB.out
    rw [m2] at r1
    rw [m1] at r2
    clear hq m1 m2 hj hl
    generalize hist out n = G at *
    subst r2
    cases G
    · simp only [Bool.false_eq_true, if_false] at r1
      subst r1
      repeat' (first | with_reducible refine OutOK.done ?_ | refine thenQ_n ?_ | refine thenQ_r ?_ | refine thenQ_e ?_ | refine AW.seq ?_ | refine AW.dreg tok mixed [10]  [(0, false), (1, false), (2, false), (3, false), (4, false), (6, false), (7, false), (8, false), (9, false), (5, false), (10, true), (11, false), (12, false)] (by decide +kernel) rfl (by simp [*]; rfl) ?_ | refine AW.dreg tok mixed [10]  [(0, false), (1, false), (2, false), (3, false), (4, false), (5, false), (7, false), (8, false), (9, false), (6, false), (10, true), (11, false), (12, false), (13, false)] (by decide +kernel) rfl (by simp [*]; rfl) ?_ | refine AW.reg tok (by simp [*]; rfl) ?_ | refine AW.ifB (by simp [*]; rfl) ?_ | refine IfG.t ?_ | refine IfG.f ?_ | (refine IfG.p (fun hg => ?_) (fun hg => ?_) <;> (try (have hg' := hg; simp at hg'))) | (refine IfG.n (fun hg => ?_) (fun hg => ?_) <;> (try (have hg' := hg; simp at hg'))) | (refine OutOK.gateP (fun hg => ?_) (fun hg => ?_) <;> (try (have hg' := hg; simp at hg'))) | (refine OutOK.gateN (fun hg => ?_) (fun hg => ?_) <;> (try (have hg' := hg; simp at hg'))) | (refine IfG.g (fun hg => ?_) (fun hg => ?_) <;> (try (have hg' := hg; simp at hg'))) | (refine OutOK.gate (fun hg => ?_) (fun hg => ?_) <;> (try (have hg' := hg; simp at hg'))) | (refine OutOK.callF [] (by simp [*]; rfl) (by simp [*]; rfl) (by simp [*]; rfl) hb74 (by apply cg <;> first | assumption | exact Hd.out (by assumption) | ((try (clear e0)); (try (clear e1)); (try (clear e2)); (try (clear e3)); (try (clear e4)); (try (clear e5)); (try (clear e6)); (try (clear e7)); (try (clear e8)); (try (clear e9)); (try (clear e10)); (try (clear e11)); omega)) ⟨by simp [*], by simp [*], by simp [*], by simp [*], by simp [*]⟩ (by simp [*]) (by simp [*]; rfl) ?_) | refine OutOK.run (by simp [*]; rfl) ?_ | refine AW.ret ?_ | refine AW.skip ?_ | refine AW.exit ?_ | refine fin_r ?_ | refine fin_n ?_ | refine AW.block ?_ | refine blockQ_n ?_ | refine blockQ_r ?_ | refine blockQ_e ?_ | refine blockQ_o rfl ?_)
      simp [Try.f49]
    · simp only [if_true] at r1
      subst r1
      repeat' (first | with_reducible refine OutOK.done ?_ | refine thenQ_n ?_ | refine thenQ_r ?_ | refine thenQ_e ?_ | refine AW.seq ?_ | refine AW.dreg tok mixed [10]  [(0, false), (1, false), (2, false), (3, false), (4, false), (6, false), (7, false), (8, false), (9, false), (5, false), (10, true), (11, false), (12, false)] (by decide +kernel) rfl (by simp [*]; rfl) ?_ | refine AW.dreg tok mixed [10]  [(0, false), (1, false), (2, false), (3, false), (4, false), (5, false), (7, false), (8, false), (9, false), (6, false), (10, true), (11, false), (12, false), (13, false)] (by decide +kernel) rfl (by simp [*]; rfl) ?_ | refine AW.reg tok (by simp [*]; rfl) ?_ | refine AW.ifB (by simp [*]; rfl) ?_ | refine IfG.t ?_ | refine IfG.f ?_ | (refine IfG.p (fun hg => ?_) (fun hg => ?_) <;> (try (have hg' := hg; simp at hg'))) | (refine IfG.n (fun hg => ?_) (fun hg => ?_) <;> (try (have hg' := hg; simp at hg'))) | (refine OutOK.gateP (fun hg => ?_) (fun hg => ?_) <;> (try (have hg' := hg; simp at hg'))) | (refine OutOK.gateN (fun hg => ?_) (fun hg => ?_) <;> (try (have hg' := hg; simp at hg'))) | (refine IfG.g (fun hg => ?_) (fun hg => ?_) <;> (try (have hg' := hg; simp at hg'))) | (refine OutOK.gate (fun hg => ?_) (fun hg => ?_) <;> (try (have hg' := hg; simp at hg'))) | (refine OutOK.callF [] (by simp [*]; rfl) (by simp [*]; rfl) (by simp [*]; rfl) hb74 (by apply cg <;> first | assumption | exact Hd.out (by assumption) | ((try (clear e0)); (try (clear e1)); (try (clear e2)); (try (clear e3)); (try (clear e4)); (try (clear e5)); (try (clear e6)); (try (clear e7)); (try (clear e8)); (try (clear e9)); (try (clear e10)); (try (clear e11)); omega)) ⟨by simp [*], by simp [*], by simp [*], by simp [*], by simp [*]⟩ (by simp [*]) (by simp [*]; rfl) ?_) | refine OutOK.run (by simp [*]; rfl) ?_ | refine AW.ret ?_ | refine AW.skip ?_ | refine AW.exit ?_ | refine fin_r ?_ | refine fin_n ?_ | refine AW.block ?_ | refine blockQ_n ?_ | refine blockQ_r ?_ | refine blockQ_e ?_ | refine blockQ_o rfl ?_)
      simp [Try.f49]
end Go.Proofs.Ytbofobjofngoeaa.EngS


set_option linter.unusedSimpArgs false
set_option linter.unusedVariables false
set_option maxHeartbeats 4000000
set_option maxRecDepth 100000
namespace Go.Proofs.Ytbofobjofngoeaa.EngS
open Go Go.Proofs Go.Eng Go.RowKit
def joinA (a : List Edt) : List Edt → List Edt → Option (List Edt)
  | out, [] => some out
  | out, x :: r => if fndE a x.tm x.ct < 0 then joinA a (out ++ [x]) r else if sameE (a[(fndE a x.tm x.ct).toNat]?.getD default) x = true then joinA a out r else none
theorem joinA_put {a out b : List Edt} {i : Nat} (h : i < b.length) (hf : fndE a b[i].tm b[i].ct < 0) : joinA a out (b.drop i) = joinA a (out ++ [b[i]]) (b.drop (i + 1)) := by
  rw [List.drop_eq_getElem_cons h, joinA, if_pos hf]
theorem joinA_same {a out b : List Edt} {i k : Nat} (h : i < b.length) (hf : fndE a b[i].tm b[i].ct = (k : Int)) (hk : k < a.length) (hs : sameE a[k] b[i] = true) : joinA a out (b.drop i) = joinA a out (b.drop (i + 1)) := by
  rw [List.drop_eq_getElem_cons h, joinA, if_neg (by omega), hf]
  simp [hk, hs]
theorem joinA_no {a out b : List Edt} {i k : Nat} (h : i < b.length) (hf : fndE a b[i].tm b[i].ct = (k : Int)) (hk : k < a.length) (hs : sameE a[k] b[i] = false) : joinA a out (b.drop i) = none := by
  rw [List.drop_eq_getElem_cons h, joinA, if_neg (by omega), hf]
  simp [hk, hs]
def SS (l : List Edt) : Prop := l.Pairwise (fun x y => cmpE x y < 0)
theorem SS.two {l : List Edt} (h : SS l) : l.Pairwise (fun x y => ¬ cmpE y x < 0) :=
  List.Pairwise.imp (fun {x y} h => by rw [cmpE_lt] at *; omega) h
theorem SS.one {l : List Edt} (h : SS l) : ∀ x ∈ l, ∀ y ∈ l, x.tm = y.tm → x.ct = y.ct → x = y := by
  induction l with
  | nil => intro x hx; cases hx
  | cons a r ih =>
    obtain ⟨h1, h2⟩ := List.pairwise_cons.1 h
    intro x hx y hy e1 e2
    rcases List.mem_cons.1 hx with hx | hx <;> rcases List.mem_cons.1 hy with hy | hy
    · rw [hx, hy]
    · have := (cmpE_lt _ _).1 (h1 y hy); rw [hx] at e1 e2; omega
    · have := (cmpE_lt _ _).1 (h1 x hx); rw [hy] at e1 e2; omega
    · exact ih h2 x hx y hy e1 e2
theorem SS_put {l : List Edt} {e : Edt} (h : SS l) (hn : ∀ x ∈ l, ¬ (x.tm = e.tm ∧ x.ct = e.ct)) : SS (putL l e) := by
  induction l with
  | nil => simp [putL, SS]
  | cons a r ih =>
    obtain ⟨h1, h2⟩ := List.pairwise_cons.1 h
    cases hb : befE e a
    · have hp : putL (a :: r) e = e :: a :: r := by simp [putL, hb]
      have hea : cmpE e a < 0 := by
        have h3 := hn a (by simp)
        simp only [befE, decide_eq_false_iff_not] at hb
        rw [cmpE_lt]
        omega
      rw [hp]
      refine List.pairwise_cons.2 ⟨fun x hx => ?_, h⟩
      rcases List.mem_cons.1 hx with rfl | hx
      · exact hea
      · have h4 := h1 x hx
        rw [cmpE_lt] at *
        omega
    · have hp : putL (a :: r) e = a :: putL r e := by simp [putL, hb]
      rw [hp]
      refine List.pairwise_cons.2 ⟨fun x hx => ?_, ih h2 (fun x hx => hn x (by simp [hx]))⟩
      rcases putL_mem.1 hx with rfl | hx
      · simpa [befE_cmp] using hb
      · exact h1 x hx
theorem fndE_neg {l : List Edt} {t n : Int} (h : fndE l t n < 0) : ∀ x ∈ l, ¬ (x.tm = t ∧ x.ct = n) := by
  intro x hx hc
  rcases idx_one (keyE t n) l with ⟨_, h2⟩ | ⟨i, _, h3, _⟩
  · have := List.any_eq_false.1 h2 x hx
    simp [keyE, hc.1, hc.2] at this
  · have : fndE l t n = (i : Int) := h3
    omega
theorem join_both (a : List Edt) : ∀ (b outL outA : List Edt), SS b → SS outL → outA.Perm outL → (∀ x ∈ outL, x ∈ a ∨ ∀ y ∈ b, cmpE x y < 0) →
    match joinA a outA b, joinL a outL b with
    | some m, some m2 => SS m2 ∧ m.Perm m2
    | none, none => True
    | _, _ => False
  | [], outL, outA, _, h1, h2, _ => ⟨h1, h2⟩
  | x :: r, outL, outA, hb, h1, h2, h3 => by
    obtain ⟨hx, hr⟩ := List.pairwise_cons.1 hb
    rw [joinA, joinL]
    by_cases hf : fndE a x.tm x.ct < 0
    · rw [if_pos hf, if_pos hf]
      refine join_both a r (putL outL x) (outA ++ [x]) hr (SS_put h1 fun y hy hc => ?_) ?_ ?_
      · rcases h3 y hy with h | h
        · exact fndE_neg hf y h hc
        · have := (cmpE_lt _ _).1 (h x (by simp)); omega
      · exact (List.perm_append_comm.trans (by simpa using List.Perm.cons x h2)).trans (putL_perm outL x).symm
      · intro y hy
        rcases putL_mem.1 hy with rfl | hy
        · exact .inr hx
        · exact (h3 y hy).imp id (fun h z hz => h z (by simp [hz]))
    · rw [if_neg hf, if_neg hf]
      by_cases hs : sameE (a[(fndE a x.tm x.ct).toNat]?.getD default) x = true
      · rw [if_pos hs, if_pos hs]
        exact join_both a r outL outA hr h1 h2 (fun y hy => (h3 y hy).imp id (fun h z hz => h z (by simp [hz])))
      · rw [if_neg hs, if_neg hs]
        trivial
theorem hist_SS {l : List Edt} {n : Int} (h : hist l n = true) : SS l := by
  have hh := (hist_iff'.1 h).st
  have key : ∀ (d i : Nat) (hi : i + d + 1 < l.length), cmpE l[i] l[i + d + 1] < 0 := by
    intro d
    induction d with
    | zero => intro i hi; exact (hh (i + 1) (by omega)).2.1 i (by omega) rfl
    | succ d ih =>
      intro i hi
      have h1 := ih i (by omega)
      have h3 : cmpE l[i + d + 1] l[i + (d + 1) + 1] < 0 := (hh (i + (d + 1) + 1) hi).2.1 (i + d + 1) (by omega) rfl
      rw [cmpE_lt] at *
      omega
  rw [SS, List.pairwise_iff_getElem]
  intro i j hi hj hij
  obtain ⟨d, rfl⟩ : ∃ d, j = i + d + 1 := ⟨j - i - 1, by omega⟩
  exact key d i hj
theorem mrg_fin {a b m : List Edt} {n : Int} (hA : hist a n = true) (hB : hist b n = true) (h : joinA a a b = some m) : ∃ m2, mrgO a b n = some m2 ∧ ∀ l' : List Edt, l'.Perm m → l'.Pairwise (fun x y => ¬ cmpE y x < 0) → l' = m2 := by
  have hj := join_both a b a a (hist_SS hB) (hist_SS hA) (.refl _) (fun x hx => .inl hx)
  rw [h] at hj
  cases hL : joinL a a b with
  | none => rw [hL] at hj; exact hj.elim
  | some m2 =>
    rw [hL] at hj
    refine ⟨m2, by simp [mrgO, hA, hB, hL], fun l' hp hs => ?_⟩
    refine sorted_same (hp.trans hj.2) hs hj.1.two (fun x hx y hy h1 h2 => ?_)
    rw [cmpE_lt] at h1 h2
    exact hj.1.one x hx y hy (by omega) (by omega)
theorem mrg_non {a b : List Edt} {n : Int} (hA : hist a n = true) (hB : hist b n = true) (h : joinA a a b = none) : mrgO a b n = none := by
  have hj := join_both a b a a (hist_SS hB) (hist_SS hA) (.refl _) (fun x hx => .inl hx)
  rw [h] at hj
  cases hL : joinL a a b with
  | none => simp [mrgO, hA, hB, hL]
  | some m2 => rw [hL] at hj; exact hj.elim
end Go.Proofs.Ytbofobjofngoeaa.EngS


set_option linter.unusedSimpArgs false
set_option linter.unusedVariables false
set_option maxHeartbeats 4000000
set_option maxRecDepth 100000
namespace Go.Proofs.Ytbofobjofngoeaa.EngS
open Go Go.Proofs Go.Eng Go.RowKit
def RestE (b : List Edt) (j : Nat) (es : List PV) : Prop := es.length = b.length ∧ (∀ k (hk : k < b.length), j ≤ k → es[k]? = some (.ag (edtC false b[k])))
theorem RestE_start (b : List Edt) : RestE b 0 (edts false b) := ⟨by simp [els], fun k hk _ => by simp [els, hk]⟩
theorem RestE_set {b : List Edt} {j : Nat} {es : List PV} (h : RestE b j es) (x : PV) : RestE b (j + 1) (es.set j x) :=
  ⟨by simp [h.1], fun k hk hjk => by rw [List.getElem?_set_ne (by omega)]; exact h.2 k hk (by omega)⟩
theorem c_impl_MergeHistories (a b : List Edt) (n : Int) (h : a.length ≤ 1048576) (hb : ∀ e ∈ a, EdtB e) (h' : b.length ≤ 1048576) (hb' : ∀ e ∈ b, EdtB e) :
    ACall Try.prog 50 [.v (.sl true 5 (edts true a)), .v (.sl true 5 (edts true b)), int n] [.x, .x, .x] [.v (.sl false 5 (edts false (mrgR a b n))), boo (mrgB a b n)] := by
  refine ACallX.one ?_
  have ca := c_impl_IsValidHistory a n (by omega) (fun e he => (hb e he).w)
  have cb := c_impl_IsValidHistory b n (by omega) (fun e he => (hb' e he).w)
  by_cases hH : (hist a n && hist b n) = true
  case neg =>
    have hm : mrgO a b n = none := by simp only [mrgO, if_neg hH]
    obtain ⟨m1, m2⟩ := mrg_none hm
    rw [m1, m2]
    cases hA : hist a n
    · rw [hA] at ca
      clear hb hb' hm m1 m2 hH hA
      generalize hist b n = B at *
      refine ACallX.of (N := 58) tok Try.func50 rfl rfl rfl (by simp) ?_
      repeat' (first | with_reducible refine OutOK.done ?_ | refine thenQ_n ?_ | refine thenQ_r ?_ | refine thenQ_e ?_ | refine AW.seq ?_ | refine AW.dreg tok mixed [4]  [(0, false), (1, false), (2, false), (3, false), (4, true), (5, false), (6, false)] (by decide +kernel) rfl (by simp [*]; rfl) ?_ | refine AW.reg tok (by simp [*]; rfl) ?_ | refine AW.ifB (by simp [*]; rfl) ?_ | refine IfG.t ?_ | refine IfG.f ?_ | (refine IfG.p (fun hg => ?_) (fun hg => ?_) <;> (try (have hg' := hg; simp at hg'))) | (refine IfG.n (fun hg => ?_) (fun hg => ?_) <;> (try (have hg' := hg; simp at hg'))) | (refine OutOK.gateP (fun hg => ?_) (fun hg => ?_) <;> (try (have hg' := hg; simp at hg'))) | (refine OutOK.gateN (fun hg => ?_) (fun hg => ?_) <;> (try (have hg' := hg; simp at hg'))) | (refine IfG.g (fun hg => ?_) (fun hg => ?_) <;> (try (have hg' := hg; simp at hg'))) | (refine OutOK.gate (fun hg => ?_) (fun hg => ?_) <;> (try (have hg' := hg; simp at hg'))) | (refine OutOK.callF [] (by simp [*]; rfl) (by simp [*]; rfl) (by simp [*]; rfl) hb26 (by apply ca <;> first | assumption | exact Hd.out (by assumption) | ((try (clear e0)); (try (clear e1)); (try (clear e2)); (try (clear e3)); (try (clear e4)); (try (clear e5)); (try (clear e6)); (try (clear e7)); (try (clear e8)); (try (clear e9)); (try (clear e10)); (try (clear e11)); omega)) ⟨by simp [*], by simp [*], by simp [*], by simp [*], by simp [*]⟩ (by simp [*]) (by simp [*]; rfl) ?_) | refine OutOK.run (by simp [*]; rfl) ?_ | refine AW.ret ?_ | refine AW.skip ?_ | refine AW.exit ?_ | refine fin_r ?_ | refine fin_n ?_ | refine AW.block ?_ | refine blockQ_n ?_ | refine blockQ_r ?_ | refine blockQ_e ?_ | refine blockQ_o rfl ?_)
      exact ⟨(), trivial, by simp [Try.f50]⟩
    · have hB : hist b n = false := by rw [hA] at hH; simpa using hH
      rw [hA] at ca
      rw [hB] at cb
      clear hb hb' hm m1 m2 hH hA hB
      refine ACallX.of (N := 58) tok Try.func50 rfl rfl rfl (by simp) ?_
      repeat' (first | with_reducible refine OutOK.done ?_ | refine thenQ_n ?_ | refine thenQ_r ?_ | refine thenQ_e ?_ | refine AW.seq ?_ | refine AW.dreg tok mixed [4]  [(0, false), (1, false), (2, false), (3, false), (4, true), (5, false), (6, false)] (by decide +kernel) rfl (by simp [*]; rfl) ?_ | refine AW.reg tok (by simp [*]; rfl) ?_ | refine AW.ifB (by simp [*]; rfl) ?_ | refine IfG.t ?_ | refine IfG.f ?_ | (refine IfG.p (fun hg => ?_) (fun hg => ?_) <;> (try (have hg' := hg; simp at hg'))) | (refine IfG.n (fun hg => ?_) (fun hg => ?_) <;> (try (have hg' := hg; simp at hg'))) | (refine OutOK.gateP (fun hg => ?_) (fun hg => ?_) <;> (try (have hg' := hg; simp at hg'))) | (refine OutOK.gateN (fun hg => ?_) (fun hg => ?_) <;> (try (have hg' := hg; simp at hg'))) | (refine IfG.g (fun hg => ?_) (fun hg => ?_) <;> (try (have hg' := hg; simp at hg'))) | (refine OutOK.gate (fun hg => ?_) (fun hg => ?_) <;> (try (have hg' := hg; simp at hg'))) | (refine OutOK.callF [] (by simp [*]; rfl) (by simp [*]; rfl) (by simp [*]; rfl) hb26 (by apply ca <;> first | assumption | exact Hd.out (by assumption) | ((try (clear e0)); (try (clear e1)); (try (clear e2)); (try (clear e3)); (try (clear e4)); (try (clear e5)); (try (clear e6)); (try (clear e7)); (try (clear e8)); (try (clear e9)); (try (clear e10)); (try (clear e11)); omega)) ⟨by simp [*], by simp [*], by simp [*], by simp [*], by simp [*]⟩ (by simp [*]) (by simp [*]; rfl) ?_) | (refine OutOK.callF [] (by simp [*]; rfl) (by simp [*]; rfl) (by simp [*]; rfl) hb26 (by apply cb <;> first | assumption | exact Hd.out (by assumption) | ((try (clear e0)); (try (clear e1)); (try (clear e2)); (try (clear e3)); (try (clear e4)); (try (clear e5)); (try (clear e6)); (try (clear e7)); (try (clear e8)); (try (clear e9)); (try (clear e10)); (try (clear e11)); omega)) ⟨by simp [*], by simp [*], by simp [*], by simp [*], by simp [*]⟩ (by simp [*]) (by simp [*]; rfl) ?_) | refine OutOK.run (by simp [*]; rfl) ?_ | refine AW.ret ?_ | refine AW.skip ?_ | refine AW.exit ?_ | refine fin_r ?_ | refine fin_n ?_ | refine AW.block ?_ | refine blockQ_n ?_ | refine blockQ_r ?_ | refine blockQ_e ?_ | refine blockQ_o rfl ?_)
      exact ⟨(), trivial, by simp [Try.f50]⟩
  have hA : hist a n = true := by simp at hH; exact hH.1
  have hB : hist b n = true := by simp at hH; exact hH.2
  have hfin : Hd (∀ m, joinA a a b = some m → ∃ m2, mrgO a b n = some m2 ∧ ∀ l' : List Edt, l'.Perm m → l'.Pairwise (fun x y => ¬ cmpE y x < 0) → l' = m2) := fun m hm => mrg_fin hA hB hm
  have hnon : Hd (joinA a a b = none → mrgO a b n = none) := fun hm => mrg_non hA hB hm
  have hal := hist_len hA
  have hbl := hist_len hB
  rw [hA] at ca
  rw [hB] at cb
  obtain ⟨R, hR⟩ : ∃ R, Hd (mrgR a b n = R) := ⟨_, rfl⟩
  obtain ⟨B, hBB⟩ : ∃ B, Hd (mrgB a b n = B) := ⟨_, rfl⟩
  rw [hR.out, hBB.out]
  have hb1 : Hd _ := hb
  have hb2 : Hd _ := hb'
  have cpa := c_impl_copyEdits a (by omega) (fun e he => (hb e he).1)
  have cpb := c_impl_copyEdits b (by omega) (fun e he => (hb' e he).1)
  clear hb hb' hA hB hH
  refine ACallX.of (N := 58) tok Try.func50 rfl rfl rfl (by simp) ?_
  repeat' (first | with_reducible refine OutOK.done ?_ | refine thenQ_n ?_ | refine thenQ_r ?_ | refine thenQ_e ?_ | refine AW.seq ?_ | refine AW.dreg tok mixed [4]  [(0, false), (1, false), (2, false), (3, false), (4, true), (5, false), (6, false)] (by decide +kernel) rfl (by simp [*]; rfl) ?_ | refine AW.reg tok (by simp [*]; rfl) ?_ | refine AW.ifB (by simp [*]; rfl) ?_ | refine IfG.t ?_ | refine IfG.f ?_ | (refine IfG.p (fun hg => ?_) (fun hg => ?_) <;> (try (have hg' := hg; simp at hg'))) | (refine IfG.n (fun hg => ?_) (fun hg => ?_) <;> (try (have hg' := hg; simp at hg'))) | (refine OutOK.gateP (fun hg => ?_) (fun hg => ?_) <;> (try (have hg' := hg; simp at hg'))) | (refine OutOK.gateN (fun hg => ?_) (fun hg => ?_) <;> (try (have hg' := hg; simp at hg'))) | (refine IfG.g (fun hg => ?_) (fun hg => ?_) <;> (try (have hg' := hg; simp at hg'))) | (refine OutOK.gate (fun hg => ?_) (fun hg => ?_) <;> (try (have hg' := hg; simp at hg'))) | (refine OutOK.callF [] (by simp [*]; rfl) (by simp [*]; rfl) (by simp [*]; rfl) hb26 (by apply ca <;> first | assumption | exact Hd.out (by assumption) | ((try (clear e0)); (try (clear e1)); (try (clear e2)); (try (clear e3)); (try (clear e4)); (try (clear e5)); (try (clear e6)); (try (clear e7)); (try (clear e8)); (try (clear e9)); (try (clear e10)); (try (clear e11)); omega)) ⟨by simp [*], by simp [*], by simp [*], by simp [*], by simp [*]⟩ (by simp [*]) (by simp [*]; rfl) ?_) | (refine OutOK.callF [] (by simp [*]; rfl) (by simp [*]; rfl) (by simp [*]; rfl) hb26 (by apply cb <;> first | assumption | exact Hd.out (by assumption) | ((try (clear e0)); (try (clear e1)); (try (clear e2)); (try (clear e3)); (try (clear e4)); (try (clear e5)); (try (clear e6)); (try (clear e7)); (try (clear e8)); (try (clear e9)); (try (clear e10)); (try (clear e11)); omega)) ⟨by simp [*], by simp [*], by simp [*], by simp [*], by simp [*]⟩ (by simp [*]) (by simp [*]; rfl) ?_) | (refine OutOK.callF [] (by simp [*]; rfl) (by simp [*]; rfl) (by simp [*]; rfl) hb95 (by apply cpa <;> first | assumption | exact Hd.out (by assumption) | ((try (clear e0)); (try (clear e1)); (try (clear e2)); (try (clear e3)); (try (clear e4)); (try (clear e5)); (try (clear e6)); (try (clear e7)); (try (clear e8)); (try (clear e9)); (try (clear e10)); (try (clear e11)); omega)) ⟨by simp [*], by simp [*], by simp [*], by simp [*], by simp [*]⟩ (by simp [*]) (by simp [*]; rfl) ?_) | (refine OutOK.callF [] (by simp [*]; rfl) (by simp [*]; rfl) (by simp [*]; rfl) hb95 (by apply cpb <;> first | assumption | exact Hd.out (by assumption) | ((try (clear e0)); (try (clear e1)); (try (clear e2)); (try (clear e3)); (try (clear e4)); (try (clear e5)); (try (clear e6)); (try (clear e7)); (try (clear e8)); (try (clear e9)); (try (clear e10)); (try (clear e11)); omega)) ⟨by simp [*], by simp [*], by simp [*], by simp [*], by simp [*]⟩ (by simp [*]) (by simp [*]; rfl) ?_) | refine OutOK.run (by simp [*]; rfl) ?_ | refine AW.ret ?_ | refine AW.skip ?_ | refine AW.exit ?_ | refine fin_r ?_ | refine fin_n ?_ | refine AW.block ?_ | refine blockQ_n ?_ | refine blockQ_r ?_ | refine blockQ_e ?_ | refine blockQ_o rfl ?_)
  clear ca cb cpa cpb
  refine AW.loopS (α := Nat × List Edt × List PV) (fun q => q.1 ≤ b.length ∧ q.2.1.length ≤ a.length + q.1 ∧ Hd (joinA a a b = joinA a q.2.1 (b.drop q.1)) ∧ Hd (∀ e ∈ q.2.1, EdtB e) ∧ Hd (RestE b q.1 q.2.2)) (fun q => [(0, .c (.sl true 5 (edts true a))), (2, .c (.sc (.int .i64 n))), (8, .rf 23000 []), (25, .rf 25000 []), (26, .c (.sc (.int .i64 (b.length : Int)))), (27, .c (.sc (.int .i64 (q.1 : Int))))]) (fun q => [(23000, .sv (.sl false 5 (edts false q.2.1))), (25000, .sv (.sl false 5 q.2.2))]) (fun q => b.length - q.1) (0, a, edts false b) ⟨Nat.zero_le _, by simp, by simp [Hd], hb1, RestE_start b⟩ [] (by simp) ⟨by simp, by simp, by simp⟩ ?_
  rintro ⟨j, out, es⟩ ⟨hj, hol, hjo, hob, hre⟩
  simp only at hj hol hjo hob hre
  rcases Nat.lt_or_ge j b.length with hl | hl
  · have e2 : wrap64 ((j : Int) + 1) = ((j + 1 : Nat) : Int) := by rw [w64 (by omega) (by omega)]; omega
    have cf := c_impl_editOf a b[j].tm b[j].ct (by omega)
    have hbj := hb2.out _ (List.getElem_mem hl)
    have j1 := fun hf => joinA_put (a := a) (out := out) hl hf
    have j2 := fun k hf hk hs => joinA_same (a := a) (out := out) (k := k) hl hf hk hs
    have j3 := fun k hf hk hs => joinA_no (a := a) (out := out) (k := k) hl hf hk hs
    have cs := fun k (hk : k < a.length) => c_impl_sameEdit a[k] b[j] (by have := (hb1.out _ (List.getElem_mem hk)).1; omega)
    have hfc := idx_cases (keyE b[j].tm b[j].ct) a
    rw [show idx (keyE b[j].tm b[j].ct) a = fndE a b[j].tm b[j].ct from rfl] at hfc
    have hel : j < es.length := by rw [hre.out.1]; exact hl
    have heg : es[j]? = some (.ag (edtC false b[j])) := hre.out.2 j hl (Nat.le_refl _)
    have hset : Hd (∀ x, RestE b (j + 1) (es.set j x)) := fun x => RestE_set hre.out x
    have hob2 : Hd (∀ e ∈ out ++ [b[j]], EdtB e) := fun e he => by
      rcases List.mem_append.1 he with he | he
      · exact hob.out e he
      · simp at he; rw [he]; exact hbj
    obtain ⟨tm, ct2, ck, it, tx, he⟩ : ∃ tm ct ck it tx, b[j] = ⟨tm, ct, ck, it, tx⟩ := ⟨_, _, _, _, _, rfl⟩
    simp only [he] at cf j1 j2 j3 cs hfc heg hob2
    have heg2 : es[j] = .ag (edtC false ⟨tm, ct2, ck, it, tx⟩) := by rw [List.getElem?_eq_getElem hel, Option.some.injEq] at heg; exact heg
    simp only [edtC_eq] at heg heg2
    clear hbj he
    generalize fndE a tm ct2 = F at *
    have b1 : (out.length + 1) * 72 ≤ 140737488355328 := by ((try (clear e0)); (try (clear e1)); (try (clear e2)); (try (clear e3)); (try (clear e4)); (try (clear e5)); (try (clear e6)); (try (clear e7)); (try (clear e8)); (try (clear e9)); (try (clear e10)); (try (clear e11)); omega)
    have b2 : out.length + 1 ≤ 4611686018427387904 := by ((try (clear e0)); (try (clear e1)); (try (clear e2)); (try (clear e3)); (try (clear e4)); (try (clear e5)); (try (clear e6)); (try (clear e7)); (try (clear e8)); (try (clear e9)); (try (clear e10)); (try (clear e11)); omega)
    rcases hfc with hf | ⟨k, rfl, hk⟩
    · have hq := hjo.out.trans (j1 hf)
      replace hq : Hd _ := hq
      clear j1 j2 j3 cs
      repeat' (first | with_reducible refine OutOK.done ?_ | refine thenQ_n ?_ | refine thenQ_r ?_ | refine thenQ_e ?_ | refine AW.seq ?_ | refine AW.dreg tok mixed [4]  [(0, false), (1, false), (2, false), (3, false), (4, true), (5, false), (6, false)] (by decide +kernel) rfl (by simp [*]; rfl) ?_ | refine AW.reg tok (by simp [*]; rfl) ?_ | refine AW.ifB (by simp [*]; rfl) ?_ | refine IfG.t ?_ | refine IfG.f ?_ | (refine IfG.p (fun hg => ?_) (fun hg => ?_) <;> (try (have hg' := hg; simp at hg'))) | (refine IfG.n (fun hg => ?_) (fun hg => ?_) <;> (try (have hg' := hg; simp at hg'))) | (refine OutOK.gateP (fun hg => ?_) (fun hg => ?_) <;> (try (have hg' := hg; simp at hg'))) | (refine OutOK.gateN (fun hg => ?_) (fun hg => ?_) <;> (try (have hg' := hg; simp at hg'))) | (refine IfG.g (fun hg => ?_) (fun hg => ?_) <;> (try (have hg' := hg; simp at hg'))) | (refine OutOK.gate (fun hg => ?_) (fun hg => ?_) <;> (try (have hg' := hg; simp at hg'))) | (refine OutOK.callF [] (by simp [*]; rfl) (by simp [*]; rfl) (by simp [*]; rfl) hb92 (by apply cf <;> first | assumption | exact Hd.out (by assumption) | ((try (clear e0)); (try (clear e1)); (try (clear e2)); (try (clear e3)); (try (clear e4)); (try (clear e5)); (try (clear e6)); (try (clear e7)); (try (clear e8)); (try (clear e9)); (try (clear e10)); (try (clear e11)); omega)) ⟨by simp [*], by simp [*], by simp [*], by simp [*], by simp [*]⟩ (by simp [*]) (by simp [*]; rfl) ?_) | refine OutOK.run (by simp [*]; rfl) ?_ | refine AW.ret ?_ | refine AW.skip ?_ | refine AW.exit ?_ | refine fin_r ?_ | refine fin_n ?_ | refine AW.block ?_ | refine blockQ_n ?_ | refine blockQ_r ?_ | refine blockQ_e ?_ | refine blockQ_o rfl ?_)
      exact ⟨(j + 1, out ++ [⟨tm, ct2, ck, it, tx⟩], es.set j (.ag [.sc (.int .i64 tm), .sc (.int .i64 ct2), .xx, .sc (.string it), .sc (.string tx)])), ⟨hl, by simp; ((try (clear e0)); (try (clear e1)); (try (clear e2)); (try (clear e3)); (try (clear e4)); (try (clear e5)); (try (clear e6)); (try (clear e7)); (try (clear e8)); (try (clear e9)); (try (clear e10)); (try (clear e11)); omega), hq, hob2, hset.out _⟩, ⟨[(42000, 23000)], by simp, by simp, by simp, by simp⟩, by simp only; ((try (clear e0)); (try (clear e1)); (try (clear e2)); (try (clear e3)); (try (clear e4)); (try (clear e5)); (try (clear e6)); (try (clear e7)); (try (clear e8)); (try (clear e9)); (try (clear e10)); (try (clear e11)); omega)⟩
    · have hck := cs k hk
      have hf1 : ¬ (k : Int) < 0 := by omega
      cases hS : sameE a[k] ⟨tm, ct2, ck, it, tx⟩
      · rw [hS] at hck
        obtain ⟨m1, m2⟩ := mrg_none (hnon.out (hjo.out.trans (j3 k rfl hk hS)))
        have r1 := hR.out
        have r2 := hBB.out
        rw [m2] at r1
        rw [m1] at r2
        subst r1 r2
        clear j1 j2 j3 cs hS m1 m2
        repeat' (first | with_reducible refine OutOK.done ?_ | refine thenQ_n ?_ | refine thenQ_r ?_ | refine thenQ_e ?_ | refine AW.seq ?_ | refine AW.dreg tok mixed [4]  [(0, false), (1, false), (2, false), (3, false), (4, true), (5, false), (6, false)] (by decide +kernel) rfl (by simp [*]; rfl) ?_ | refine AW.reg tok (by simp [*]; rfl) ?_ | refine AW.ifB (by simp [*]; rfl) ?_ | refine IfG.t ?_ | refine IfG.f ?_ | (refine IfG.p (fun hg => ?_) (fun hg => ?_) <;> (try (have hg' := hg; simp at hg'))) | (refine IfG.n (fun hg => ?_) (fun hg => ?_) <;> (try (have hg' := hg; simp at hg'))) | (refine OutOK.gateP (fun hg => ?_) (fun hg => ?_) <;> (try (have hg' := hg; simp at hg'))) | (refine OutOK.gateN (fun hg => ?_) (fun hg => ?_) <;> (try (have hg' := hg; simp at hg'))) | (refine IfG.g (fun hg => ?_) (fun hg => ?_) <;> (try (have hg' := hg; simp at hg'))) | (refine OutOK.gate (fun hg => ?_) (fun hg => ?_) <;> (try (have hg' := hg; simp at hg'))) | (refine OutOK.callF [] (by simp [*]; rfl) (by simp [*]; rfl) (by simp [*]; rfl) hb92 (by apply cf <;> first | assumption | exact Hd.out (by assumption) | ((try (clear e0)); (try (clear e1)); (try (clear e2)); (try (clear e3)); (try (clear e4)); (try (clear e5)); (try (clear e6)); (try (clear e7)); (try (clear e8)); (try (clear e9)); (try (clear e10)); (try (clear e11)); omega)) ⟨by simp [*], by simp [*], by simp [*], by simp [*], by simp [*]⟩ (by simp [*]) (by simp [*]; rfl) ?_) | (refine OutOK.callF [] (by simp [*]; rfl) (by simp [*]; rfl) (by simp [*]; rfl) hb101 (by apply hck <;> first | assumption | exact Hd.out (by assumption) | ((try (clear e0)); (try (clear e1)); (try (clear e2)); (try (clear e3)); (try (clear e4)); (try (clear e5)); (try (clear e6)); (try (clear e7)); (try (clear e8)); (try (clear e9)); (try (clear e10)); (try (clear e11)); omega)) ⟨by simp [*], by simp [*], by simp [*], by simp [*], by simp [*]⟩ (by simp [*]) (by simp [*]; rfl) ?_) | refine OutOK.run (by simp [*]; rfl) ?_ | refine AW.ret ?_ | refine AW.skip ?_ | refine AW.exit ?_ | refine fin_r ?_ | refine fin_n ?_ | refine AW.block ?_ | refine blockQ_n ?_ | refine blockQ_r ?_ | refine blockQ_e ?_ | refine blockQ_o rfl ?_)
        exact ⟨(), trivial, by simp [Try.f50]⟩
      · rw [hS] at hck
        have hq := hjo.out.trans (j2 k rfl hk hS)
        replace hq : Hd _ := hq
        clear j1 j2 j3 cs hS
        repeat' (first | with_reducible refine OutOK.done ?_ | refine thenQ_n ?_ | refine thenQ_r ?_ | refine thenQ_e ?_ | refine AW.seq ?_ | refine AW.dreg tok mixed [4]  [(0, false), (1, false), (2, false), (3, false), (4, true), (5, false), (6, false)] (by decide +kernel) rfl (by simp [*]; rfl) ?_ | refine AW.reg tok (by simp [*]; rfl) ?_ | refine AW.ifB (by simp [*]; rfl) ?_ | refine IfG.t ?_ | refine IfG.f ?_ | (refine IfG.p (fun hg => ?_) (fun hg => ?_) <;> (try (have hg' := hg; simp at hg'))) | (refine IfG.n (fun hg => ?_) (fun hg => ?_) <;> (try (have hg' := hg; simp at hg'))) | (refine OutOK.gateP (fun hg => ?_) (fun hg => ?_) <;> (try (have hg' := hg; simp at hg'))) | (refine OutOK.gateN (fun hg => ?_) (fun hg => ?_) <;> (try (have hg' := hg; simp at hg'))) | (refine IfG.g (fun hg => ?_) (fun hg => ?_) <;> (try (have hg' := hg; simp at hg'))) | (refine OutOK.gate (fun hg => ?_) (fun hg => ?_) <;> (try (have hg' := hg; simp at hg'))) | (refine OutOK.callF [] (by simp [*]; rfl) (by simp [*]; rfl) (by simp [*]; rfl) hb92 (by apply cf <;> first | assumption | exact Hd.out (by assumption) | ((try (clear e0)); (try (clear e1)); (try (clear e2)); (try (clear e3)); (try (clear e4)); (try (clear e5)); (try (clear e6)); (try (clear e7)); (try (clear e8)); (try (clear e9)); (try (clear e10)); (try (clear e11)); omega)) ⟨by simp [*], by simp [*], by simp [*], by simp [*], by simp [*]⟩ (by simp [*]) (by simp [*]; rfl) ?_) | (refine OutOK.callF [] (by simp [*]; rfl) (by simp [*]; rfl) (by simp [*]; rfl) hb101 (by apply hck <;> first | assumption | exact Hd.out (by assumption) | ((try (clear e0)); (try (clear e1)); (try (clear e2)); (try (clear e3)); (try (clear e4)); (try (clear e5)); (try (clear e6)); (try (clear e7)); (try (clear e8)); (try (clear e9)); (try (clear e10)); (try (clear e11)); omega)) ⟨by simp [*], by simp [*], by simp [*], by simp [*], by simp [*]⟩ (by simp [*]) (by simp [*]; rfl) ?_) | refine OutOK.run (by simp [*]; rfl) ?_ | refine AW.ret ?_ | refine AW.skip ?_ | refine AW.exit ?_ | refine fin_r ?_ | refine fin_n ?_ | refine AW.block ?_ | refine blockQ_n ?_ | refine blockQ_r ?_ | refine blockQ_e ?_ | refine blockQ_o rfl ?_)
        exact ⟨(j + 1, out, es.set j (.ag [.sc (.int .i64 tm), .sc (.int .i64 ct2), .xx, .sc (.string it), .sc (.string tx)])), ⟨hl, by simp only; ((try (clear e0)); (try (clear e1)); (try (clear e2)); (try (clear e3)); (try (clear e4)); (try (clear e5)); (try (clear e6)); (try (clear e7)); (try (clear e8)); (try (clear e9)); (try (clear e10)); (try (clear e11)); omega), hq, hob, hset.out _⟩, ⟨[], by simp, by simp, by simp, by simp⟩, by simp only; ((try (clear e0)); (try (clear e1)); (try (clear e2)); (try (clear e3)); (try (clear e4)); (try (clear e5)); (try (clear e6)); (try (clear e7)); (try (clear e8)); (try (clear e9)); (try (clear e10)); (try (clear e11)); omega)⟩
  · have hjn : ¬ j < b.length := by omega
    have hq := hjo.out
    rw [List.drop_eq_nil_of_le hl, joinA] at hq
    obtain ⟨m2, hm2, hun⟩ := hfin.out _ hq
    obtain ⟨q1, q2⟩ := mrg_some hm2
    have r1 := hR.out
    have r2 := hBB.out
    rw [q2] at r1
    rw [q1] at r2
    replace hun : Hd _ := hun
    have csf := x_SortFunc_edt out (by omega)
    have hoL : out.length ≤ 48 := by omega
    clear hq q1 q2 hm2 hj hl
    replace r1 : Hd _ := r1
    replace r2 : Hd _ := r2
    repeat' (first | with_reducible refine OutOK.done ?_ | refine thenQ_n ?_ | refine thenQ_r ?_ | refine thenQ_e ?_ | refine AW.seq ?_ | refine AW.dreg tok mixed [4]  [(0, false), (1, false), (2, false), (3, false), (4, true), (5, false), (6, false)] (by decide +kernel) rfl (by simp [*]; rfl) ?_ | refine AW.reg tok (by simp [*]; rfl) ?_ | refine AW.ifB (by simp [*]; rfl) ?_ | refine IfG.t ?_ | refine IfG.f ?_ | (refine IfG.p (fun hg => ?_) (fun hg => ?_) <;> (try (have hg' := hg; simp at hg'))) | (refine IfG.n (fun hg => ?_) (fun hg => ?_) <;> (try (have hg' := hg; simp at hg'))) | (refine OutOK.gateP (fun hg => ?_) (fun hg => ?_) <;> (try (have hg' := hg; simp at hg'))) | (refine OutOK.gateN (fun hg => ?_) (fun hg => ?_) <;> (try (have hg' := hg; simp at hg'))) | (refine IfG.g (fun hg => ?_) (fun hg => ?_) <;> (try (have hg' := hg; simp at hg'))) | (refine OutOK.gate (fun hg => ?_) (fun hg => ?_) <;> (try (have hg' := hg; simp at hg'))) | refine OutOK.run (by simp [*]; rfl) ?_ | refine AW.ret ?_ | refine AW.skip ?_ | refine AW.exit ?_ | refine fin_r ?_ | refine fin_n ?_ | refine AW.block ?_ | refine blockQ_n ?_ | refine blockQ_r ?_ | refine blockQ_e ?_ | refine blockQ_o rfl ?_)
    refine OutOK.callX [true] (by simp [*]; rfl) (by simp [*]; rfl) (by simp [*]; rfl) hb102 (by apply csf <;> first | assumption | exact Hd.out (by assumption) | ((try (clear e0)); (try (clear e1)); (try (clear e2)); (try (clear e3)); (try (clear e4)); (try (clear e5)); (try (clear e6)); (try (clear e7)); (try (clear e8)); (try (clear e9)); (try (clear e10)); (try (clear e11)); omega)) ⟨by simp [*], by simp [*], by simp [*]⟩ (by simp [*]) (fun x hx => ?_)
    obtain ⟨p1, p2⟩ := hx
    have hxm : x = m2 := hun.out x p1 p2
    have cg := c_impl_IsValidHistory x n (by have := p1.length_eq; omega) (fun e he => (hob.out e (p1.mem_iff.1 he)).w)
    have r1 := r1.out
    have r2 := r2.out
    rw [← hxm] at r1 r2
    clear hxm hun p1 p2 csf
    generalize hist x n = G at *
    subst r2
    cases G
    · simp only [Bool.false_eq_true, if_false] at r1
      subst r1
      refine CallX.mk' ⟨by simp [*], by simp [*], by simp [*], by simp [*], by simp [*]⟩ (by simp [*]; rfl) ?_
      repeat' (first | with_reducible refine OutOK.done ?_ | refine thenQ_n ?_ | refine thenQ_r ?_ | refine thenQ_e ?_ | refine AW.seq ?_ | refine AW.dreg tok mixed [4]  [(0, false), (1, false), (2, false), (3, false), (4, true), (5, false), (6, false)] (by decide +kernel) rfl (by simp [*]; rfl) ?_ | refine AW.reg tok (by simp [*]; rfl) ?_ | refine AW.ifB (by simp [*]; rfl) ?_ | refine IfG.t ?_ | refine IfG.f ?_ | (refine IfG.p (fun hg => ?_) (fun hg => ?_) <;> (try (have hg' := hg; simp at hg'))) | (refine IfG.n (fun hg => ?_) (fun hg => ?_) <;> (try (have hg' := hg; simp at hg'))) | (refine OutOK.gateP (fun hg => ?_) (fun hg => ?_) <;> (try (have hg' := hg; simp at hg'))) | (refine OutOK.gateN (fun hg => ?_) (fun hg => ?_) <;> (try (have hg' := hg; simp at hg'))) | (refine IfG.g (fun hg => ?_) (fun hg => ?_) <;> (try (have hg' := hg; simp at hg'))) | (refine OutOK.gate (fun hg => ?_) (fun hg => ?_) <;> (try (have hg' := hg; simp at hg'))) | (refine OutOK.callF [] (by simp [*]; rfl) (by simp [*]; rfl) (by simp [*]; rfl) hb26 (by apply cg <;> first | assumption | exact Hd.out (by assumption) | ((try (clear e0)); (try (clear e1)); (try (clear e2)); (try (clear e3)); (try (clear e4)); (try (clear e5)); (try (clear e6)); (try (clear e7)); (try (clear e8)); (try (clear e9)); (try (clear e10)); (try (clear e11)); omega)) ⟨by simp [*], by simp [*], by simp [*], by simp [*], by simp [*]⟩ (by simp [*]) (by simp [*]; rfl) ?_) | refine OutOK.run (by simp [*]; rfl) ?_ | refine AW.ret ?_ | refine AW.skip ?_ | refine AW.exit ?_ | refine fin_r ?_ | refine fin_n ?_ | refine AW.block ?_ | refine blockQ_n ?_ | refine blockQ_r ?_ | refine blockQ_e ?_ | refine blockQ_o rfl ?_)
      exact ⟨(), trivial, by simp [Try.f50]⟩
    · simp only [if_true] at r1
      subst r1
      refine CallX.mk' ⟨by simp [*], by simp [*], by simp [*], by simp [*], by simp [*]⟩ (by simp [*]; rfl) ?_
      repeat' (first | with_reducible refine OutOK.done ?_ | refine thenQ_n ?_ | refine thenQ_r ?_ | refine thenQ_e ?_ | refine AW.seq ?_ | refine AW.dreg tok mixed [4]  [(0, false), (1, false), (2, false), (3, false), (4, true), (5, false), (6, false)] (by decide +kernel) rfl (by simp [*]; rfl) ?_ | refine AW.reg tok (by simp [*]; rfl) ?_ | refine AW.ifB (by simp [*]; rfl) ?_ | refine IfG.t ?_ | refine IfG.f ?_ | (refine IfG.p (fun hg => ?_) (fun hg => ?_) <;> (try (have hg' := hg; simp at hg'))) | (refine IfG.n (fun hg => ?_) (fun hg => ?_) <;> (try (have hg' := hg; simp at hg'))) | (refine OutOK.gateP (fun hg => ?_) (fun hg => ?_) <;> (try (have hg' := hg; simp at hg'))) | (refine OutOK.gateN (fun hg => ?_) (fun hg => ?_) <;> (try (have hg' := hg; simp at hg'))) | (refine IfG.g (fun hg => ?_) (fun hg => ?_) <;> (try (have hg' := hg; simp at hg'))) | (refine OutOK.gate (fun hg => ?_) (fun hg => ?_) <;> (try (have hg' := hg; simp at hg'))) | (refine OutOK.callF [] (by simp [*]; rfl) (by simp [*]; rfl) (by simp [*]; rfl) hb26 (by apply cg <;> first | assumption | exact Hd.out (by assumption) | ((try (clear e0)); (try (clear e1)); (try (clear e2)); (try (clear e3)); (try (clear e4)); (try (clear e5)); (try (clear e6)); (try (clear e7)); (try (clear e8)); (try (clear e9)); (try (clear e10)); (try (clear e11)); omega)) ⟨by simp [*], by simp [*], by simp [*], by simp [*], by simp [*]⟩ (by simp [*]) (by simp [*]; rfl) ?_) | refine OutOK.run (by simp [*]; rfl) ?_ | refine AW.ret ?_ | refine AW.skip ?_ | refine AW.exit ?_ | refine fin_r ?_ | refine fin_n ?_ | refine AW.block ?_ | refine blockQ_n ?_ | refine blockQ_r ?_ | refine blockQ_e ?_ | refine blockQ_o rfl ?_)
      exact ⟨(), trivial, by simp [Try.f50]⟩
end Go.Proofs.Ytbofobjofngoeaa.EngS


set_option linter.unusedSimpArgs false
set_option linter.unusedVariables false
set_option maxHeartbeats 4000000
set_option maxRecDepth 100000
namespace Go.Proofs.Ytbofobjofngoeaa.EngS
open Go Go.Proofs Go.Eng Go.RowKit
theorem x_laws_szEditS2 (xs : List Edt) (l : Int) (h : xs.length ≤ 9223372036854775807) (hW : ∀ e ∈ xs, EdtV e) (h0 : 0 ≤ l) (h1 : l ≤ 1048576) : ACallX Try.prog 23 [.v (.sl true 5 (edts true xs)), int l] (fun r : Int => (-1 ≤ r ∧ r ≤ 1048576) ∧ (0 ≤ r → xs.length ≤ 1048576 ∧ (∀ e ∈ xs, EdtB e) ∧ ckS xs ≤ 1048576)) (fun _ => [.x, .x]) (fun r => [int r]) := by
  have e1 : wrap64 (l - xs.length) = l - xs.length := w64 (by omega) (by omega)
  rcases Int.lt_or_le (l - xs.length) 0 with hn | hn
  · clear hW
    refine ACallX.of (N := 27) tok Try.func23 rfl rfl rfl (by simp) ?_
    repeat' (first | with_reducible refine OutOK.done ?_ | refine thenQ_n ?_ | refine thenQ_r ?_ | refine thenQ_e ?_ | refine AW.seq ?_ | refine AW.reg tok (by simp [*]; rfl) ?_ | refine AW.ifB (by simp [*]; rfl) ?_ | refine IfG.t ?_ | refine IfG.f ?_ | (refine IfG.p (fun hg => ?_) (fun hg => ?_) <;> (try (have hg' := hg; simp at hg'))) | (refine IfG.n (fun hg => ?_) (fun hg => ?_) <;> (try (have hg' := hg; simp at hg'))) | (refine OutOK.gateP (fun hg => ?_) (fun hg => ?_) <;> (try (have hg' := hg; simp at hg'))) | (refine OutOK.gateN (fun hg => ?_) (fun hg => ?_) <;> (try (have hg' := hg; simp at hg'))) | (refine IfG.g (fun hg => ?_) (fun hg => ?_) <;> (try (have hg' := hg; simp at hg'))) | (refine OutOK.gate (fun hg => ?_) (fun hg => ?_) <;> (try (have hg' := hg; simp at hg'))) | refine OutOK.run (by simp [*]; rfl) ?_ | refine AW.ret ?_ | refine AW.skip ?_ | refine AW.exit ?_ | refine fin_r ?_ | refine fin_n ?_ | refine AW.block ?_ | refine blockQ_n ?_ | refine blockQ_r ?_ | refine blockQ_e ?_ | refine blockQ_o rfl ?_)
    exact ⟨-1, ⟨⟨by omega, by omega⟩, by omega⟩, by simp [Try.f23]⟩
  have hn' : ¬ l - (xs.length : Int) < 0 := by ((try (clear e0)); (try (clear e1)); (try (clear e2)); (try (clear e3)); (try (clear e4)); (try (clear e5)); (try (clear e6)); (try (clear e7)); (try (clear e8)); (try (clear e9)); (try (clear e10)); (try (clear e11)); omega)
  have hxl : xs.length ≤ 1048576 := by ((try (clear e0)); (try (clear e1)); (try (clear e2)); (try (clear e3)); (try (clear e4)); (try (clear e5)); (try (clear e6)); (try (clear e7)); (try (clear e8)); (try (clear e9)); (try (clear e10)); (try (clear e11)); omega)
  have hW' : Hd _ := hW
  clear hW
  refine ACallX.of (N := 27) tok Try.func23 rfl rfl rfl (by simp) ?_
  repeat' (first | with_reducible refine OutOK.done ?_ | refine thenQ_n ?_ | refine thenQ_r ?_ | refine thenQ_e ?_ | refine AW.seq ?_ | refine AW.reg tok (by simp [*]; rfl) ?_ | refine AW.ifB (by simp [*]; rfl) ?_ | refine IfG.t ?_ | refine IfG.f ?_ | (refine IfG.p (fun hg => ?_) (fun hg => ?_) <;> (try (have hg' := hg; simp at hg'))) | (refine IfG.n (fun hg => ?_) (fun hg => ?_) <;> (try (have hg' := hg; simp at hg'))) | (refine OutOK.gateP (fun hg => ?_) (fun hg => ?_) <;> (try (have hg' := hg; simp at hg'))) | (refine OutOK.gateN (fun hg => ?_) (fun hg => ?_) <;> (try (have hg' := hg; simp at hg'))) | (refine IfG.g (fun hg => ?_) (fun hg => ?_) <;> (try (have hg' := hg; simp at hg'))) | (refine OutOK.gate (fun hg => ?_) (fun hg => ?_) <;> (try (have hg' := hg; simp at hg'))) | refine OutOK.run (by simp [*]; rfl) ?_ | refine AW.ret ?_ | refine AW.skip ?_ | refine AW.exit ?_ | refine fin_r ?_ | refine fin_n ?_ | refine AW.block ?_ | refine blockQ_n ?_ | refine blockQ_r ?_ | refine blockQ_e ?_ | refine blockQ_o rfl ?_)
  refine AW.loopL (α := Nat × Int) (fun p => p.1 ≤ xs.length ∧ (0 ≤ p.2 ∧ p.2 ≤ 1048576) ∧ Hd ((∀ j (hj : j < xs.length), j < p.1 → EdtB xs[j]) ∧ (ckS (xs.take p.1) : Int) + p.2 ≤ 1048576)) (fun p => [(0, .c (.sl true 5 (edts true xs))), (1, .c (.sc (.int .i64 p.2))), (5, .c (.sc (.int .i64 (p.1 : Int))))]) (fun _ => []) (fun p => xs.length - p.1) (0, l - xs.length) ⟨Nat.zero_le _, ⟨by ((try (clear e0)); (try (clear e1)); (try (clear e2)); (try (clear e3)); (try (clear e4)); (try (clear e5)); (try (clear e6)); (try (clear e7)); (try (clear e8)); (try (clear e9)); (try (clear e10)); (try (clear e11)); omega), by simp only; ((try (clear e0)); (try (clear e1)); (try (clear e2)); (try (clear e3)); (try (clear e4)); (try (clear e5)); (try (clear e6)); (try (clear e7)); (try (clear e8)); (try (clear e9)); (try (clear e10)); (try (clear e11)); omega)⟩, fun j _ hj => by omega, by simp only [List.take_zero, ckS]; ((try (clear e0)); (try (clear e1)); (try (clear e2)); (try (clear e3)); (try (clear e4)); (try (clear e5)); (try (clear e6)); (try (clear e7)); (try (clear e8)); (try (clear e9)); (try (clear e10)); (try (clear e11)); omega)⟩ ⟨by simp, by simp, by simp⟩ ?_
  rintro ⟨i, k⟩ ⟨hi, ⟨hk0, hk1⟩, hs⟩
  simp only at hi hk0 hk1 hs
  clear e1 hn hn'
  rcases Nat.lt_or_ge i xs.length with hl | hl
  · have e2 : wrap64 ((i : Int) + 1) = ((i + 1 : Nat) : Int) := by rw [w64 (by omega) (by omega)]; omega
    have cz := x_laws_szEdit xs[i] k (hW'.out _ (List.getElem_mem hl)) hk0 hk1
    repeat' (first | with_reducible refine OutOK.done ?_ | refine thenQ_n ?_ | refine thenQ_r ?_ | refine thenQ_e ?_ | refine AW.seq ?_ | refine AW.reg tok (by simp [*]; rfl) ?_ | refine AW.ifB (by simp [*]; rfl) ?_ | refine IfG.t ?_ | refine IfG.f ?_ | (refine IfG.p (fun hg => ?_) (fun hg => ?_) <;> (try (have hg' := hg; simp at hg'))) | (refine IfG.n (fun hg => ?_) (fun hg => ?_) <;> (try (have hg' := hg; simp at hg'))) | (refine OutOK.gateP (fun hg => ?_) (fun hg => ?_) <;> (try (have hg' := hg; simp at hg'))) | (refine OutOK.gateN (fun hg => ?_) (fun hg => ?_) <;> (try (have hg' := hg; simp at hg'))) | (refine IfG.g (fun hg => ?_) (fun hg => ?_) <;> (try (have hg' := hg; simp at hg'))) | (refine OutOK.gate (fun hg => ?_) (fun hg => ?_) <;> (try (have hg' := hg; simp at hg'))) | refine OutOK.run (by simp [*]; rfl) ?_ | refine AW.ret ?_ | refine AW.skip ?_ | refine AW.exit ?_ | refine fin_r ?_ | refine fin_n ?_ | refine AW.block ?_ | refine blockQ_n ?_ | refine blockQ_r ?_ | refine blockQ_e ?_ | refine blockQ_o rfl ?_)
    refine OutOK.callX [] (by simp [*]; rfl) (by simp [*]; rfl) (by simp [*]; rfl) hb73 (by apply cz <;> first | assumption | exact Hd.out (by assumption) | ((try (clear e0)); (try (clear e1)); (try (clear e2)); (try (clear e3)); (try (clear e4)); (try (clear e5)); (try (clear e6)); (try (clear e7)); (try (clear e8)); (try (clear e9)); (try (clear e10)); (try (clear e11)); omega)) ⟨by simp [*], by simp [*], by simp [*]⟩ (by simp [*]) (fun x hx => ?_)
    obtain ⟨c1, c2, c3⟩ := hx
    rcases Int.lt_or_le x 0 with hc | hc
    · clear c3 c1
      refine CallX.mk' ⟨by simp [*], by simp [*], by simp [*], by simp [*], by simp [*]⟩ (by simp [*]; rfl) ?_
      repeat' (first | with_reducible refine OutOK.done ?_ | refine thenQ_n ?_ | refine thenQ_r ?_ | refine thenQ_e ?_ | refine AW.seq ?_ | refine AW.reg tok (by simp [*]; rfl) ?_ | refine AW.ifB (by simp [*]; rfl) ?_ | refine IfG.t ?_ | refine IfG.f ?_ | (refine IfG.p (fun hg => ?_) (fun hg => ?_) <;> (try (have hg' := hg; simp at hg'))) | (refine IfG.n (fun hg => ?_) (fun hg => ?_) <;> (try (have hg' := hg; simp at hg'))) | (refine OutOK.gateP (fun hg => ?_) (fun hg => ?_) <;> (try (have hg' := hg; simp at hg'))) | (refine OutOK.gateN (fun hg => ?_) (fun hg => ?_) <;> (try (have hg' := hg; simp at hg'))) | (refine IfG.g (fun hg => ?_) (fun hg => ?_) <;> (try (have hg' := hg; simp at hg'))) | (refine OutOK.gate (fun hg => ?_) (fun hg => ?_) <;> (try (have hg' := hg; simp at hg'))) | refine OutOK.run (by simp [*]; rfl) ?_ | refine AW.ret ?_ | refine AW.skip ?_ | refine AW.exit ?_ | refine fin_r ?_ | refine fin_n ?_ | refine AW.block ?_ | refine blockQ_n ?_ | refine blockQ_r ?_ | refine blockQ_e ?_ | refine blockQ_o rfl ?_)
      exact ⟨-1, ⟨⟨by omega, by omega⟩, by omega⟩, by simp [Try.f23]⟩
    · have hc' : ¬ x < 0 := by ((try (clear e0)); (try (clear e1)); (try (clear e2)); (try (clear e3)); (try (clear e4)); (try (clear e5)); (try (clear e6)); (try (clear e7)); (try (clear e8)); (try (clear e9)); (try (clear e10)); (try (clear e11)); omega)
      have hb : Hd (EdtB xs[i]) := (c3 hc).1
      have hk2 : Hd ((ckS (xs.take (i + 1)) : Int) + x ≤ 1048576) := by have h5 := hs.out.2; have h6 := (c3 hc).2; rw [Hd, ckS_step xs i hl]; push_cast; clear e2; omega
      clear c3
      refine CallX.mk' ⟨by simp [*], by simp [*], by simp [*], by simp [*], by simp [*]⟩ (by simp [*]; rfl) ?_
      repeat' (first | with_reducible refine OutOK.done ?_ | refine thenQ_n ?_ | refine thenQ_r ?_ | refine thenQ_e ?_ | refine AW.seq ?_ | refine AW.reg tok (by simp [*]; rfl) ?_ | refine AW.ifB (by simp [*]; rfl) ?_ | refine IfG.t ?_ | refine IfG.f ?_ | (refine IfG.p (fun hg => ?_) (fun hg => ?_) <;> (try (have hg' := hg; simp at hg'))) | (refine IfG.n (fun hg => ?_) (fun hg => ?_) <;> (try (have hg' := hg; simp at hg'))) | (refine OutOK.gateP (fun hg => ?_) (fun hg => ?_) <;> (try (have hg' := hg; simp at hg'))) | (refine OutOK.gateN (fun hg => ?_) (fun hg => ?_) <;> (try (have hg' := hg; simp at hg'))) | (refine IfG.g (fun hg => ?_) (fun hg => ?_) <;> (try (have hg' := hg; simp at hg'))) | (refine OutOK.gate (fun hg => ?_) (fun hg => ?_) <;> (try (have hg' := hg; simp at hg'))) | refine OutOK.run (by simp [*]; rfl) ?_ | refine AW.ret ?_ | refine AW.skip ?_ | refine AW.exit ?_ | refine fin_r ?_ | refine fin_n ?_ | refine AW.block ?_ | refine blockQ_n ?_ | refine blockQ_r ?_ | refine blockQ_e ?_ | refine blockQ_o rfl ?_)
      refine ⟨(i + 1, x), ⟨hl, ⟨hc, by simp only; ((try (clear e0)); (try (clear e1)); (try (clear e2)); (try (clear e3)); (try (clear e4)); (try (clear e5)); (try (clear e6)); (try (clear e7)); (try (clear e8)); (try (clear e9)); (try (clear e10)); (try (clear e11)); omega)⟩, fun j hj hj' => ?_, hk2.out⟩, ⟨by simp, by simp, by simp⟩, by simp only; ((try (clear e0)); (try (clear e1)); (try (clear e2)); (try (clear e3)); (try (clear e4)); (try (clear e5)); (try (clear e6)); (try (clear e7)); (try (clear e8)); (try (clear e9)); (try (clear e10)); (try (clear e11)); omega)⟩
      rcases Nat.lt_succ_iff_lt_or_eq.1 hj' with h1 | rfl
      · exact hs.out.1 j hj h1
      · exact hb.out
  · have hnl : ¬ i < xs.length := by ((try (clear e0)); (try (clear e1)); (try (clear e2)); (try (clear e3)); (try (clear e4)); (try (clear e5)); (try (clear e6)); (try (clear e7)); (try (clear e8)); (try (clear e9)); (try (clear e10)); (try (clear e11)); omega)
    repeat' (first | with_reducible refine OutOK.done ?_ | refine thenQ_n ?_ | refine thenQ_r ?_ | refine thenQ_e ?_ | refine AW.seq ?_ | refine AW.reg tok (by simp [*]; rfl) ?_ | refine AW.ifB (by simp [*]; rfl) ?_ | refine IfG.t ?_ | refine IfG.f ?_ | (refine IfG.p (fun hg => ?_) (fun hg => ?_) <;> (try (have hg' := hg; simp at hg'))) | (refine IfG.n (fun hg => ?_) (fun hg => ?_) <;> (try (have hg' := hg; simp at hg'))) | (refine OutOK.gateP (fun hg => ?_) (fun hg => ?_) <;> (try (have hg' := hg; simp at hg'))) | (refine OutOK.gateN (fun hg => ?_) (fun hg => ?_) <;> (try (have hg' := hg; simp at hg'))) | (refine IfG.g (fun hg => ?_) (fun hg => ?_) <;> (try (have hg' := hg; simp at hg'))) | (refine OutOK.gate (fun hg => ?_) (fun hg => ?_) <;> (try (have hg' := hg; simp at hg'))) | refine OutOK.run (by simp [*]; rfl) ?_ | refine AW.ret ?_ | refine AW.skip ?_ | refine AW.exit ?_ | refine fin_r ?_ | refine fin_n ?_ | refine AW.block ?_ | refine blockQ_n ?_ | refine blockQ_r ?_ | refine blockQ_e ?_ | refine blockQ_o rfl ?_)
    have hii : xs.take i = xs := List.take_of_length_le (by ((try (clear e0)); (try (clear e1)); (try (clear e2)); (try (clear e3)); (try (clear e4)); (try (clear e5)); (try (clear e6)); (try (clear e7)); (try (clear e8)); (try (clear e9)); (try (clear e10)); (try (clear e11)); omega))
    have hks := hs.out.2
    simp only [hii] at hks
    refine ⟨k, ⟨⟨by ((try (clear e0)); (try (clear e1)); (try (clear e2)); (try (clear e3)); (try (clear e4)); (try (clear e5)); (try (clear e6)); (try (clear e7)); (try (clear e8)); (try (clear e9)); (try (clear e10)); (try (clear e11)); omega), by ((try (clear e0)); (try (clear e1)); (try (clear e2)); (try (clear e3)); (try (clear e4)); (try (clear e5)); (try (clear e6)); (try (clear e7)); (try (clear e8)); (try (clear e9)); (try (clear e10)); (try (clear e11)); omega)⟩, fun _ => ⟨hxl, fun e he => ?_, by ((try (clear e0)); (try (clear e1)); (try (clear e2)); (try (clear e3)); (try (clear e4)); (try (clear e5)); (try (clear e6)); (try (clear e7)); (try (clear e8)); (try (clear e9)); (try (clear e10)); (try (clear e11)); omega)⟩⟩, by simp [Try.f23]⟩
    obtain ⟨j, hj, rfl⟩ := List.getElem_of_mem he
    exact hs.out.1 j hj (by ((try (clear e0)); (try (clear e1)); (try (clear e2)); (try (clear e3)); (try (clear e4)); (try (clear e5)); (try (clear e6)); (try (clear e7)); (try (clear e8)); (try (clear e9)); (try (clear e10)); (try (clear e11)); omega))
theorem c_laws_markEditS2 (l : List Edt) (k : Nat) (h : l.length ≤ 1048576) (hT : ckS l ≤ 1048576) (h1 : 0 < k) (h2 : k ≤ 10000000) : ACall Try.prog 33 [.v (.sl false 5 (edts false l)), int k] [.v (.sl false 5 (edts false (mkEs k (lens l)))), .x] [int ((k + totE (lens l) : Nat) : Int)] := by
  have hb' : Hd (∀ e ∈ l, e.ck.length ≤ 1048576) := fun e he => by
    have h3 : ∀ r : List Edt, e ∈ r → e.ck.length ≤ ckS r := by
      intro r
      induction r with
      | nil => intro h; simp at h
      | cons x r ih =>
        intro h
        rcases List.mem_cons.1 h with rfl | h
        · simp only [ckS]; omega
        · have := ih h; simp only [ckS]; omega
    have := h3 l he; omega
  have htot : Hd (∀ i, totE ((lens l).take i) ≤ 200000000000) := fun i => by have h4 := totE_take (lens l) i; have h5 := totE_lens l; omega
  clear hT
  refine ACall.of (N := 50) tok Try.func33 rfl rfl rfl (by simp) ?_
  repeat' (first | with_reducible refine OutOK.done ?_ | refine thenQ_n ?_ | refine thenQ_r ?_ | refine thenQ_e ?_ | refine AW.seq ?_ | refine AW.reg tok (by simp [*]; rfl) ?_ | refine AW.ifB (by simp [*]; rfl) ?_ | refine IfG.t ?_ | refine IfG.f ?_ | (refine IfG.p (fun hg => ?_) (fun hg => ?_) <;> (try (have hg' := hg; simp at hg'))) | (refine IfG.n (fun hg => ?_) (fun hg => ?_) <;> (try (have hg' := hg; simp at hg'))) | (refine OutOK.gateP (fun hg => ?_) (fun hg => ?_) <;> (try (have hg' := hg; simp at hg'))) | (refine OutOK.gateN (fun hg => ?_) (fun hg => ?_) <;> (try (have hg' := hg; simp at hg'))) | (refine IfG.g (fun hg => ?_) (fun hg => ?_) <;> (try (have hg' := hg; simp at hg'))) | (refine OutOK.gate (fun hg => ?_) (fun hg => ?_) <;> (try (have hg' := hg; simp at hg'))) | refine OutOK.run (by simp [*]; rfl) ?_ | refine AW.ret ?_ | refine AW.skip ?_ | refine AW.exit ?_ | refine fin_r ?_ | refine fin_n ?_ | refine AW.block ?_ | refine blockQ_n ?_ | refine blockQ_r ?_ | refine blockQ_e ?_ | refine blockQ_o rfl ?_)
  refine AW.loopL (fun i => i ≤ l.length) (fun i => [(0, .rf 100000000 []), (1, .c (.sc (.int .i64 ((k + totE ((lens l).take i) : Nat) : Int)))), (5, .c (.sc (.int .i64 (i : Int))))]) (fun i => [(100000000, .sv (.sl false 5 (edts false (mkI k l i))))]) (fun i => l.length - i) 0 (Nat.zero_le _) ⟨by simp [totE], by simp [mkI_zero], by simp⟩ ?_
  intro i hi
  rcases Nat.lt_or_ge i l.length with hl | hl
  · have e0 : wrap64 ((i : Int) + 1) = (i : Int) + 1 := w64 (by omega) (by omega)
    have hbi := hb'.out _ (List.getElem_mem hl)
    have hti := htot.out i
    have hL : (mkI k l i).length = l.length := mkI_len k l i hi
    have hat : ∀ h2, (mkI k l i)[i]'h2 = l[i] := fun h2 => mkI_at k l i hl h2
    have hst : Hd ((mkI k l i).set i (mkE (k + totE ((lens l).take i)) l[i].ck.length) = mkI k l (i + 1)) := mkI_step k l i hl
    have hts : Hd (totE ((lens l).take (i + 1)) = totE ((lens l).take i) + 4 + l[i].ck.length) := totE_step l i hl
    obtain ⟨K, hK⟩ : ∃ K, K = k + totE ((lens l).take i) := ⟨_, rfl⟩
    have hKb : K ≤ 10000000000000 := by ((try (clear e0)); (try (clear e1)); (try (clear e2)); (try (clear e3)); (try (clear e4)); (try (clear e5)); (try (clear e6)); (try (clear e7)); (try (clear e8)); (try (clear e9)); (try (clear e10)); (try (clear e11)); omega)
    rw [← hK] at hst ⊢
    obtain ⟨tm, ct, ck, it, tx, he⟩ : ∃ tm ct ck it tx, l[i] = ⟨tm, ct, ck, it, tx⟩ := ⟨_, _, _, _, _, rfl⟩
    rw [he] at hbi hst hts
    simp only at hbi hst hts
    obtain ⟨a, b, c, d, s, hE, q1, q2, q3, q4, q5, z1, z2⟩ := upE K ck.length hKb hbi
    have cm := c_laws_markIntS ck b hbi (by ((try (clear e0)); (try (clear e1)); (try (clear e2)); (try (clear e3)); (try (clear e4)); (try (clear e5)); (try (clear e6)); (try (clear e7)); (try (clear e8)); (try (clear e9)); (try (clear e10)); (try (clear e11)); omega)) (by have := hE.out; clear q1 q2 q3 q4 q5; ((try (clear e0)); (try (clear e1)); (try (clear e2)); (try (clear e3)); (try (clear e4)); (try (clear e5)); (try (clear e6)); (try (clear e7)); (try (clear e8)); (try (clear e9)); (try (clear e10)); (try (clear e11)); omega))
    rw [q3] at cm
    have t1 := c_laws_markText c z1 (by have := hE.out; clear q1 q2 q3 q4 q5; ((try (clear e0)); (try (clear e1)); (try (clear e2)); (try (clear e3)); (try (clear e4)); (try (clear e5)); (try (clear e6)); (try (clear e7)); (try (clear e8)); (try (clear e9)); (try (clear e10)); (try (clear e11)); omega))
    have t2 := c_laws_markText d z2 (by have := hE.out; clear q1 q2 q3 q4 q5; ((try (clear e0)); (try (clear e1)); (try (clear e2)); (try (clear e3)); (try (clear e4)); (try (clear e5)); (try (clear e6)); (try (clear e7)); (try (clear e8)); (try (clear e9)); (try (clear e10)); (try (clear e11)); omega))
    have hK' : Hd (K = k + totE ((lens l).take i)) := hK
    clear hK hti
    have hiL : i < (mkI k l i).length := by ((try (clear e0)); (try (clear e1)); (try (clear e2)); (try (clear e3)); (try (clear e4)); (try (clear e5)); (try (clear e6)); (try (clear e7)); (try (clear e8)); (try (clear e9)); (try (clear e10)); (try (clear e11)); omega)
    have hat' : (mkI k l i)[i] = ⟨tm, ct, ck, it, tx⟩ := by rw [hat hiL, he]
    clear hat he
    generalize hM : mkI k l i = M at *
    replace hM : Hd _ := hM
    clear hL
    repeat' (first | with_reducible refine OutOK.done ?_ | refine thenQ_n ?_ | refine thenQ_r ?_ | refine thenQ_e ?_ | refine AW.seq ?_ | refine AW.reg tok (by simp [*]; rfl) ?_ | refine AW.ifB (by simp [*]; rfl) ?_ | refine IfG.t ?_ | refine IfG.f ?_ | (refine IfG.p (fun hg => ?_) (fun hg => ?_) <;> (try (have hg' := hg; simp at hg'))) | (refine IfG.n (fun hg => ?_) (fun hg => ?_) <;> (try (have hg' := hg; simp at hg'))) | (refine OutOK.gateP (fun hg => ?_) (fun hg => ?_) <;> (try (have hg' := hg; simp at hg'))) | (refine OutOK.gateN (fun hg => ?_) (fun hg => ?_) <;> (try (have hg' := hg; simp at hg'))) | (refine IfG.g (fun hg => ?_) (fun hg => ?_) <;> (try (have hg' := hg; simp at hg'))) | (refine OutOK.gate (fun hg => ?_) (fun hg => ?_) <;> (try (have hg' := hg; simp at hg'))) | (refine OutOK.callF [true, false] (by simp [*]; rfl) (by simp [*]; rfl) (by simp [*]; rfl) hb34 (by apply cm <;> first | assumption | exact Hd.out (by assumption) | ((try (clear e0)); (try (clear e1)); (try (clear e2)); (try (clear e3)); (try (clear e4)); (try (clear e5)); (try (clear e6)); (try (clear e7)); (try (clear e8)); (try (clear e9)); (try (clear e10)); (try (clear e11)); omega)) ⟨by simp [*], by simp [*], by simp [*], by simp [*], by simp [*]⟩ (by simp [*]) (by simp [*]; rfl) ?_) | (refine OutOK.callF [] (by simp [*]; rfl) (by simp [*]; rfl) (by simp [*]; rfl) hb85 (by apply t1 <;> first | assumption | exact Hd.out (by assumption) | ((try (clear e0)); (try (clear e1)); (try (clear e2)); (try (clear e3)); (try (clear e4)); (try (clear e5)); (try (clear e6)); (try (clear e7)); (try (clear e8)); (try (clear e9)); (try (clear e10)); (try (clear e11)); omega)) ⟨by simp [*], by simp [*], by simp [*], by simp [*], by simp [*]⟩ (by simp [*]) (by simp [*]; rfl) ?_) | (refine OutOK.callF [] (by simp [*]; rfl) (by simp [*]; rfl) (by simp [*]; rfl) hb85 (by apply t2 <;> first | assumption | exact Hd.out (by assumption) | ((try (clear e0)); (try (clear e1)); (try (clear e2)); (try (clear e3)); (try (clear e4)); (try (clear e5)); (try (clear e6)); (try (clear e7)); (try (clear e8)); (try (clear e9)); (try (clear e10)); (try (clear e11)); omega)) ⟨by simp [*], by simp [*], by simp [*], by simp [*], by simp [*]⟩ (by simp [*]) (by simp [*]; rfl) ?_) | refine OutOK.run (by simp [*]; rfl) ?_ | refine AW.ret ?_ | refine AW.skip ?_ | refine AW.exit ?_ | refine fin_r ?_ | refine fin_n ?_ | refine AW.block ?_ | refine blockQ_n ?_ | refine blockQ_r ?_ | refine blockQ_e ?_ | refine blockQ_o rfl ?_)
    obtain ⟨r1, r2, r3, r4, r5⟩ := hE.out
    have ht : mkE K ck.length = ⟨K, a, upTo b ck.length, mkTx c, mkTx d⟩ := by rw [mkE, r1, r2, r3, r4]
    refine ⟨i + 1, by ((try (clear e0)); (try (clear e1)); (try (clear e2)); (try (clear e3)); (try (clear e4)); (try (clear e5)); (try (clear e6)); (try (clear e7)); (try (clear e8)); (try (clear e9)); (try (clear e10)); (try (clear e11)); omega), ⟨?_, ?_, by simp⟩, by ((try (clear e0)); (try (clear e1)); (try (clear e2)); (try (clear e3)); (try (clear e4)); (try (clear e5)); (try (clear e6)); (try (clear e7)); (try (clear e8)); (try (clear e9)); (try (clear e10)); (try (clear e11)); omega)⟩
    · have := hts.out; have := hK'.out
      simp [e0]; clear e0 q1 q2 q3 q4 q5; omega
    · rw [← hst.out, ht]
      simp [mkTx]
  · have hx : i = l.length := by omega
    subst hx
    have ht : (lens l).take l.length = lens l := List.take_of_length_le (by simp)
    repeat' (first | with_reducible refine OutOK.done ?_ | refine thenQ_n ?_ | refine thenQ_r ?_ | refine thenQ_e ?_ | refine AW.seq ?_ | refine AW.reg tok (by simp [*]; rfl) ?_ | refine AW.ifB (by simp [*]; rfl) ?_ | refine IfG.t ?_ | refine IfG.f ?_ | (refine IfG.p (fun hg => ?_) (fun hg => ?_) <;> (try (have hg' := hg; simp at hg'))) | (refine IfG.n (fun hg => ?_) (fun hg => ?_) <;> (try (have hg' := hg; simp at hg'))) | (refine OutOK.gateP (fun hg => ?_) (fun hg => ?_) <;> (try (have hg' := hg; simp at hg'))) | (refine OutOK.gateN (fun hg => ?_) (fun hg => ?_) <;> (try (have hg' := hg; simp at hg'))) | (refine IfG.g (fun hg => ?_) (fun hg => ?_) <;> (try (have hg' := hg; simp at hg'))) | (refine OutOK.gate (fun hg => ?_) (fun hg => ?_) <;> (try (have hg' := hg; simp at hg'))) | refine OutOK.run (by simp [*]; rfl) ?_ | refine AW.ret ?_ | refine AW.skip ?_ | refine AW.exit ?_ | refine fin_r ?_ | refine fin_n ?_ | refine AW.block ?_ | refine blockQ_n ?_ | refine blockQ_r ?_ | refine blockQ_e ?_ | refine blockQ_o rfl ?_)
    simp [Try.f33, mkI_all, ht]
end Go.Proofs.Ytbofobjofngoeaa.EngS

