-- Written by this session's texts and program for this claim. Lean checks it.
import Derived.Sort.EncStr
import Derived.Sort.Grow
import Derived.Lib.SlicesCompact
import Derived.Sort.Walk0
import Derived.Lib.Strings
import Derived.Shelf.Strings.Shaped
import Derived.Shelf.Sort.Plain
import Derived.Shelf.Slices.In.SortNone
import Derived.Shelf.SlSortCmp.WholeK
import Derived.Shelf.SlGeneric
import Derived.Ground.SlsfProg
import Derived.Ground.NamesProg
import Derived.Test.YtbofobjofngoeaaProg
import Derived.Shelf.Slices.CompactS
import Derived.Shelf.SlSortCmp.NoneTotal
import Derived.Test.YtbofobjofngoeaaVFnExactConflictingItems4
set_option autoImplicit true
set_option relaxedAutoImplicit true
set_option linter.unusedSimpArgs false
set_option linter.unusedVariables false
set_option maxHeartbeats 4000000
set_option maxRecDepth 100000
namespace Go.Proofs.Ytbofobjofngoeaa.EngS
open Go Go.Proofs Go.Eng Go.RowKit
def Ih2Q (l : List Edt) (n : Int) (i : Nat) (h : i < l.length) (e : Exit) (st : St) : Prop :=
  (e = .ret ∧ ¬ (∀ t < l[i].ck.length, inR 0 (cntE l (t : Int)) (ckAt l[i].ck (t : Int)) = true) ∧ FinP T Try.f26.results.toList [.v (.sl true 5 (edts true l)), int n] [.x, .x] [boo false] st) ∨
  (e = .normal ∧ (∀ t < l[i].ck.length, inR 0 (cntE l (t : Int)) (ckAt l[i].ck (t : Int)) = true) ∧ LessL st [(0, .c (.sl true 5 (edts true l))), (1, .c (.sc (.int .i64 n))), (5, .rf 25000 []), (100, .c (.sl true 5 (edts true l))), (101, .c (.sc (.int .i64 (l.length : Int)))), (102, .c (.sc (.int .i64 ((i + 1 : Nat) : Int))))] [(25000, .sv (.sl false 1 (ints (cts l n l.length))))])
theorem w_ih2 (l : List Edt) (n : Int) (i : Nat) (h : i < l.length) (hl : l.length ≤ 24) (h1 : 1 ≤ n) (h3 : n ≤ 3) (hln : (l[i].ck.length : Int) = n) : AW Try.prog 152 (cAt Try.f26 [2, 2, 2, 2, 1, 2, 5, 7]) (mk [(0, .c (.sl true 5 (edts true l))), (1, .c (.sc (.int .i64 n))), (5, .rf 25000 []), (100, .c (.sl true 5 (edts true l))), (101, .c (.sc (.int .i64 (l.length : Int)))), (102, .c (.sc (.int .i64 (i : Int))))] [(25000, .sv (.sl false 1 (ints (cts l n l.length))))]) (Ih2Q l n i h) := by
  have e1 : wrap64 ((i : Int) + 1) = ((i + 1 : Nat) : Int) := by rw [w64 (by omega) (by omega)]; omega
  have hat : Hd (∀ t (h : t < (cts l n l.length).length), (cts l n l.length)[t] = ((cntE l (t : Int) : Nat) : Int)) := fun t h => by rw [cts_at, List.take_length]
  have hcl : Hd ((cts l n l.length).length = n.toNat) := cts_len _ _ _
  have hck3 : l[i].ck.length ≤ 3 := by omega
  have hln' : Hd _ := hln
  clear hln
  generalize hcts : cts l n l.length = cl at *
  have hcts' : Hd _ := hcts
  clear hcts
  repeat' (first | with_reducible refine OutOK.done ?_ | refine thenQ_n ?_ | refine thenQ_r ?_ | refine thenQ_e ?_ | refine AW.seq ?_ | refine AW.dreg tok mixed [15, 25, 26, 27, 28]  [(0, false), (2, false), (3, false), (1, false), (4, false), (5, false), (6, false), (7, false), (8, false), (9, false), (10, false), (11, false), (12, false), (13, false), (14, false), (15, true), (16, false), (17, false), (18, false), (19, false), (20, false), (21, false), (23, false), (24, false), (22, false), (25, true), (26, true), (27, true), (28, true), (29, false), (30, false)] (by decide +kernel) rfl (by simp [*]; rfl) ?_ | refine AW.dreg tok mixed [9, 13]  [(0, false), (3, false), (1, false), (2, false), (4, false), (5, false), (6, false), (8, false), (12, false), (7, false), (9, true), (10, false), (11, false), (13, true), (14, false), (15, false), (16, false), (17, false), (18, false), (19, false), (20, false), (21, false), (22, false), (23, false), (24, false), (25, false), (26, false), (27, false)] (by decide +kernel) rfl (by simp [*]; rfl) ?_ | refine AW.reg tok (by simp [*]; rfl) ?_ | refine AW.ifB (by simp [*]; rfl) ?_ | refine IfG.t ?_ | refine IfG.f ?_ | (refine IfG.p (fun hg => ?_) (fun hg => ?_) <;> (try (have hg' := hg; simp at hg'))) | (refine IfG.n (fun hg => ?_) (fun hg => ?_) <;> (try (have hg' := hg; simp at hg'))) | (refine OutOK.gateP (fun hg => ?_) (fun hg => ?_) <;> (try (have hg' := hg; simp at hg'))) | (refine OutOK.gateN (fun hg => ?_) (fun hg => ?_) <;> (try (have hg' := hg; simp at hg'))) | (refine IfG.g (fun hg => ?_) (fun hg => ?_) <;> (try (have hg' := hg; simp at hg'))) | (refine OutOK.gate (fun hg => ?_) (fun hg => ?_) <;> (try (have hg' := hg; simp at hg'))) | refine OutOK.run (by simp [*]; rfl) ?_ | refine AW.ret ?_ | refine AW.skip ?_ | refine AW.exit ?_ | refine fin_r ?_ | refine fin_n ?_ | refine AW.block ?_ | refine blockQ_n ?_ | refine blockQ_r ?_ | refine blockQ_e ?_ | refine blockQ_o rfl ?_)
  refine AW.loopL (α := Nat) (fun t => t ≤ l[i].ck.length ∧ Hd (∀ j < t, inR 0 (cntE l (j : Int)) (ckAt l[i].ck (j : Int)) = true)) (fun t => [(0, .c (.sl true 5 (edts true l))), (1, .c (.sc (.int .i64 n))), (5, .rf 25000 []), (100, .c (.sl true 5 (edts true l))), (101, .c (.sc (.int .i64 (l.length : Int)))), (102, .c (.sc (.int .i64 (i : Int)))), (107, .c (.sl true 1 (ints l[i].ck))), (108, .c (.sc (.int .i64 (l[i].ck.length : Int)))), (109, .c (.sc (.int .i64 (t : Int))))]) (fun _ => [(25000, .sv (.sl false 1 (ints cl)))]) (fun t => l[i].ck.length - t) 0 ⟨Nat.zero_le _, fun j hj => by omega⟩ ⟨by simp, by simp, by simp⟩ ?_
  rintro t ⟨ht, hs⟩
  rcases Nat.lt_or_ge t l[i].ck.length with htl | htl
  · have e2 : wrap64 ((t : Int) + 1) = ((t + 1 : Nat) : Int) := by rw [w64 (by omega) (by omega)]; omega
    have htc : t < cl.length := by have := hcl.out; have := hln'.out; omega
    have h2 := hat.out t htc
    have hca : Hd (ckAt l[i].ck (t : Int) = l[i].ck[t]) := by simp [Hd, ckAt, htl]
    have hR0 : Hd (inR 0 (cntE l (t : Int)) (ckAt l[i].ck (t : Int)) = inR 0 (cntE l (t : Int)) l[i].ck[t]) := by rw [Hd, hca.out]
    generalize hcn : cntE l (t : Int) = c at *
    cases hR : inR 0 (c : Int) l[i].ck[t] with
    | false =>
      have hb : Hd (¬ (∀ t < l[i].ck.length, inR 0 (cntE l (t : Int)) (ckAt l[i].ck (t : Int)) = true)) := fun hh => by have := hh t htl; rw [hcn, hR0.out, hR] at this; cases this
      clear hcn
      repeat' (first | with_reducible refine OutOK.done ?_ | refine thenQ_n ?_ | refine thenQ_r ?_ | refine thenQ_e ?_ | refine AW.seq ?_ | refine AW.dreg tok mixed [15, 25, 26, 27, 28]  [(0, false), (2, false), (3, false), (1, false), (4, false), (5, false), (6, false), (7, false), (8, false), (9, false), (10, false), (11, false), (12, false), (13, false), (14, false), (15, true), (16, false), (17, false), (18, false), (19, false), (20, false), (21, false), (23, false), (24, false), (22, false), (25, true), (26, true), (27, true), (28, true), (29, false), (30, false)] (by decide +kernel) rfl (by simp [*]; rfl) ?_ | refine AW.dreg tok mixed [9, 13]  [(0, false), (3, false), (1, false), (2, false), (4, false), (5, false), (6, false), (8, false), (12, false), (7, false), (9, true), (10, false), (11, false), (13, true), (14, false), (15, false), (16, false), (17, false), (18, false), (19, false), (20, false), (21, false), (22, false), (23, false), (24, false), (25, false), (26, false), (27, false)] (by decide +kernel) rfl (by simp [*]; rfl) ?_ | refine AW.reg tok (by simp [*]; rfl) ?_ | refine AW.ifB (by simp [*]; rfl) ?_ | refine IfG.t ?_ | refine IfG.f ?_ | (refine IfG.p (fun hg => ?_) (fun hg => ?_) <;> (try (have hg' := hg; simp at hg'))) | (refine IfG.n (fun hg => ?_) (fun hg => ?_) <;> (try (have hg' := hg; simp at hg'))) | (refine OutOK.gateP (fun hg => ?_) (fun hg => ?_) <;> (try (have hg' := hg; simp at hg'))) | (refine OutOK.gateN (fun hg => ?_) (fun hg => ?_) <;> (try (have hg' := hg; simp at hg'))) | (refine IfG.g (fun hg => ?_) (fun hg => ?_) <;> (try (have hg' := hg; simp at hg'))) | (refine OutOK.gate (fun hg => ?_) (fun hg => ?_) <;> (try (have hg' := hg; simp at hg'))) | (refine OutOK.callF [] (by simp [*]; rfl) (by simp [*]; rfl) (by simp [*]; rfl) hb59 (by apply c_impl_within <;> first | assumption | exact Hd.out (by assumption) | ((try (clear e0)); (try (clear e1)); (try (clear e2)); (try (clear e3)); (try (clear e4)); (try (clear e5)); (try (clear e6)); (try (clear e7)); (try (clear e8)); (try (clear e9)); (try (clear e10)); (try (clear e11)); omega)) ⟨by simp [*], by simp [*], by simp [*], by simp [*], by simp [*]⟩ (by simp [*]) (by simp [*]; rfl) ?_) | refine OutOK.run (by simp [*]; rfl) ?_ | refine AW.ret ?_ | refine AW.skip ?_ | refine AW.exit ?_ | refine fin_r ?_ | refine fin_n ?_ | refine AW.block ?_ | refine blockQ_n ?_ | refine blockQ_r ?_ | refine blockQ_e ?_ | refine blockQ_o rfl ?_)
      exact .inl ⟨rfl, hb.out, by simp [Try.f26]⟩
    | true =>
      have hs2 : Hd (∀ j < t + 1, inR 0 (cntE l (j : Int)) (ckAt l[i].ck (j : Int)) = true) := by
        intro j hj
        rcases Nat.lt_succ_iff_lt_or_eq.1 hj with h2 | rfl
        · exact hs.out j h2
        · rw [hcn, hR0.out, hR]
      clear hcn
      repeat' (first | with_reducible refine OutOK.done ?_ | refine thenQ_n ?_ | refine thenQ_r ?_ | refine thenQ_e ?_ | refine AW.seq ?_ | refine AW.dreg tok mixed [15, 25, 26, 27, 28]  [(0, false), (2, false), (3, false), (1, false), (4, false), (5, false), (6, false), (7, false), (8, false), (9, false), (10, false), (11, false), (12, false), (13, false), (14, false), (15, true), (16, false), (17, false), (18, false), (19, false), (20, false), (21, false), (23, false), (24, false), (22, false), (25, true), (26, true), (27, true), (28, true), (29, false), (30, false)] (by decide +kernel) rfl (by simp [*]; rfl) ?_ | refine AW.dreg tok mixed [9, 13]  [(0, false), (3, false), (1, false), (2, false), (4, false), (5, false), (6, false), (8, false), (12, false), (7, false), (9, true), (10, false), (11, false), (13, true), (14, false), (15, false), (16, false), (17, false), (18, false), (19, false), (20, false), (21, false), (22, false), (23, false), (24, false), (25, false), (26, false), (27, false)] (by decide +kernel) rfl (by simp [*]; rfl) ?_ | refine AW.reg tok (by simp [*]; rfl) ?_ | refine AW.ifB (by simp [*]; rfl) ?_ | refine IfG.t ?_ | refine IfG.f ?_ | (refine IfG.p (fun hg => ?_) (fun hg => ?_) <;> (try (have hg' := hg; simp at hg'))) | (refine IfG.n (fun hg => ?_) (fun hg => ?_) <;> (try (have hg' := hg; simp at hg'))) | (refine OutOK.gateP (fun hg => ?_) (fun hg => ?_) <;> (try (have hg' := hg; simp at hg'))) | (refine OutOK.gateN (fun hg => ?_) (fun hg => ?_) <;> (try (have hg' := hg; simp at hg'))) | (refine IfG.g (fun hg => ?_) (fun hg => ?_) <;> (try (have hg' := hg; simp at hg'))) | (refine OutOK.gate (fun hg => ?_) (fun hg => ?_) <;> (try (have hg' := hg; simp at hg'))) | (refine OutOK.callF [] (by simp [*]; rfl) (by simp [*]; rfl) (by simp [*]; rfl) hb59 (by apply c_impl_within <;> first | assumption | exact Hd.out (by assumption) | ((try (clear e0)); (try (clear e1)); (try (clear e2)); (try (clear e3)); (try (clear e4)); (try (clear e5)); (try (clear e6)); (try (clear e7)); (try (clear e8)); (try (clear e9)); (try (clear e10)); (try (clear e11)); omega)) ⟨by simp [*], by simp [*], by simp [*], by simp [*], by simp [*]⟩ (by simp [*]) (by simp [*]; rfl) ?_) | refine OutOK.run (by simp [*]; rfl) ?_ | refine AW.ret ?_ | refine AW.skip ?_ | refine AW.exit ?_ | refine fin_r ?_ | refine fin_n ?_ | refine AW.block ?_ | refine blockQ_n ?_ | refine blockQ_r ?_ | refine blockQ_e ?_ | refine blockQ_o rfl ?_)
      exact ⟨t + 1, ⟨htl, hs2⟩, ⟨by simp, by simp, by simp⟩, by ((try (clear e0)); (try (clear e1)); (try (clear e2)); (try (clear e3)); (try (clear e4)); (try (clear e5)); (try (clear e6)); (try (clear e7)); (try (clear e8)); (try (clear e9)); (try (clear e10)); (try (clear e11)); omega)⟩
  · have htn : ¬ t < l[i].ck.length := by omega
    have hs2 : Hd (∀ j < l[i].ck.length, inR 0 (cntE l (j : Int)) (ckAt l[i].ck (j : Int)) = true) := fun j hj => hs.out j (by omega)
    repeat' (first | with_reducible refine OutOK.done ?_ | refine thenQ_n ?_ | refine thenQ_r ?_ | refine thenQ_e ?_ | refine AW.seq ?_ | refine AW.dreg tok mixed [15, 25, 26, 27, 28]  [(0, false), (2, false), (3, false), (1, false), (4, false), (5, false), (6, false), (7, false), (8, false), (9, false), (10, false), (11, false), (12, false), (13, false), (14, false), (15, true), (16, false), (17, false), (18, false), (19, false), (20, false), (21, false), (23, false), (24, false), (22, false), (25, true), (26, true), (27, true), (28, true), (29, false), (30, false)] (by decide +kernel) rfl (by simp [*]; rfl) ?_ | refine AW.dreg tok mixed [9, 13]  [(0, false), (3, false), (1, false), (2, false), (4, false), (5, false), (6, false), (8, false), (12, false), (7, false), (9, true), (10, false), (11, false), (13, true), (14, false), (15, false), (16, false), (17, false), (18, false), (19, false), (20, false), (21, false), (22, false), (23, false), (24, false), (25, false), (26, false), (27, false)] (by decide +kernel) rfl (by simp [*]; rfl) ?_ | refine AW.reg tok (by simp [*]; rfl) ?_ | refine AW.ifB (by simp [*]; rfl) ?_ | refine IfG.t ?_ | refine IfG.f ?_ | (refine IfG.p (fun hg => ?_) (fun hg => ?_) <;> (try (have hg' := hg; simp at hg'))) | (refine IfG.n (fun hg => ?_) (fun hg => ?_) <;> (try (have hg' := hg; simp at hg'))) | (refine OutOK.gateP (fun hg => ?_) (fun hg => ?_) <;> (try (have hg' := hg; simp at hg'))) | (refine OutOK.gateN (fun hg => ?_) (fun hg => ?_) <;> (try (have hg' := hg; simp at hg'))) | (refine IfG.g (fun hg => ?_) (fun hg => ?_) <;> (try (have hg' := hg; simp at hg'))) | (refine OutOK.gate (fun hg => ?_) (fun hg => ?_) <;> (try (have hg' := hg; simp at hg'))) | refine OutOK.run (by simp [*]; rfl) ?_ | refine AW.ret ?_ | refine AW.skip ?_ | refine AW.exit ?_ | refine fin_r ?_ | refine fin_n ?_ | refine AW.block ?_ | refine blockQ_n ?_ | refine blockQ_r ?_ | refine blockQ_e ?_ | refine blockQ_o rfl ?_)
    exact .inr ⟨rfl, hs2.out, by simp, by simp [hcts'.out], by simp⟩
def Ih3Q (l : List Edt) (n : Int) (i k : Nat) (h : i < l.length) (hk : k < l.length) (e : Exit) (st : St) : Prop :=
  (e = .ret ∧ ¬ (precE l[k] l[i] = true → precE l[i] l[k] = false ∧ noGr l[k].ck l[i].ck = true) ∧ FinP T Try.f26.results.toList [.v (.sl true 5 (edts true l)), int n] [.x, .x] [boo false] st) ∨
  (e = .normal ∧ (precE l[k] l[i] = true → precE l[i] l[k] = false ∧ noGr l[k].ck l[i].ck = true) ∧ LessL st [(0, .c (.sl true 5 (edts true l))), (1, .c (.sc (.int .i64 n))), (13, .pt 13000 []  0), (123, .c (.sl true 5 (edts true l))), (124, .c (.sc (.int .i64 (l.length : Int)))), (125, .c (.sc (.int .i64 (i : Int)))), (129, .c (.sl true 5 (edts true l))), (130, .c (.sc (.int .i64 (l.length : Int)))), (131, .c (.sc (.int .i64 ((k + 1 : Nat) : Int))))] [(13000, .bx (edtC true l[i]))])
theorem w_ih3a (l : List Edt) (n : Int) (i k : Nat) (h : i < l.length) (hk : k < l.length) (hl : l.length ≤ 24) (hli : l[i].ck.length ≤ 3) (hlk : l[k].ck.length = l[i].ck.length) (p1 : precE l[k] l[i] = false) : AW Try.prog 152 (cAt Try.f26 [2, 2, 2, 2, 2, 1, 2, 5, 7, 2, 2, 1, 5, 2, 2, 5, 7]) (mk [(0, .c (.sl true 5 (edts true l))), (1, .c (.sc (.int .i64 n))), (13, .pt 13000 []  0), (123, .c (.sl true 5 (edts true l))), (124, .c (.sc (.int .i64 (l.length : Int)))), (125, .c (.sc (.int .i64 (i : Int)))), (129, .c (.sl true 5 (edts true l))), (130, .c (.sc (.int .i64 (l.length : Int)))), (131, .c (.sc (.int .i64 (k : Int))))] [(13000, .bx (edtC true l[i]))]) (Ih3Q l n i k h hk) := by
  have e1 : wrap64 ((k : Int) + 1) = ((k + 1 : Nat) : Int) := by rw [w64 (by omega) (by omega)]; omega
  have c1 := c_impl_Precedes l[k] l[i] (by omega)
  rw [p1] at c1
  have hb : Hd ((precE l[k] l[i] = true → precE l[i] l[k] = false ∧ noGr l[k].ck l[i].ck = true)) := fun hh => by rw [p1] at hh; cases hh
  clear p1 hlk hli
  repeat' (first | with_reducible refine OutOK.done ?_ | refine thenQ_n ?_ | refine thenQ_r ?_ | refine thenQ_e ?_ | refine AW.seq ?_ | refine AW.dreg tok mixed [15, 25, 26, 27, 28]  [(0, false), (2, false), (3, false), (1, false), (4, false), (5, false), (6, false), (7, false), (8, false), (9, false), (10, false), (11, false), (12, false), (13, false), (14, false), (15, true), (16, false), (17, false), (18, false), (19, false), (20, false), (21, false), (23, false), (24, false), (22, false), (25, true), (26, true), (27, true), (28, true), (29, false), (30, false)] (by decide +kernel) rfl (by simp [*]; rfl) ?_ | refine AW.dreg tok mixed [9, 13]  [(0, false), (3, false), (1, false), (2, false), (4, false), (5, false), (6, false), (8, false), (12, false), (7, false), (9, true), (10, false), (11, false), (13, true), (14, false), (15, false), (16, false), (17, false), (18, false), (19, false), (20, false), (21, false), (22, false), (23, false), (24, false), (25, false), (26, false), (27, false)] (by decide +kernel) rfl (by simp [*]; rfl) ?_ | refine AW.reg tok (by simp [*]; rfl) ?_ | refine AW.ifB (by simp [*]; rfl) ?_ | refine IfG.t ?_ | refine IfG.f ?_ | (refine IfG.p (fun hg => ?_) (fun hg => ?_) <;> (try (have hg' := hg; simp at hg'))) | (refine IfG.n (fun hg => ?_) (fun hg => ?_) <;> (try (have hg' := hg; simp at hg'))) | (refine OutOK.gateP (fun hg => ?_) (fun hg => ?_) <;> (try (have hg' := hg; simp at hg'))) | (refine OutOK.gateN (fun hg => ?_) (fun hg => ?_) <;> (try (have hg' := hg; simp at hg'))) | (refine IfG.g (fun hg => ?_) (fun hg => ?_) <;> (try (have hg' := hg; simp at hg'))) | (refine OutOK.gate (fun hg => ?_) (fun hg => ?_) <;> (try (have hg' := hg; simp at hg'))) | (refine OutOK.callF [] (by simp [*]; rfl) (by simp [*]; rfl) (by simp [*]; rfl) hb40 (by apply c1 <;> first | assumption | exact Hd.out (by assumption) | ((try (clear e0)); (try (clear e1)); (try (clear e2)); (try (clear e3)); (try (clear e4)); (try (clear e5)); (try (clear e6)); (try (clear e7)); (try (clear e8)); (try (clear e9)); (try (clear e10)); (try (clear e11)); omega)) ⟨by simp [*], by simp [*], by simp [*], by simp [*], by simp [*]⟩ (by simp [*]) (by simp [*]; rfl) ?_) | refine OutOK.run (by simp [*]; rfl) ?_ | refine AW.ret ?_ | refine AW.skip ?_ | refine AW.exit ?_ | refine fin_r ?_ | refine fin_n ?_ | refine AW.block ?_ | refine blockQ_n ?_ | refine blockQ_r ?_ | refine blockQ_e ?_ | refine blockQ_o rfl ?_)
  exact .inr ⟨rfl, hb.out, by simp, by simp, by simp⟩
theorem w_ih3b (l : List Edt) (n : Int) (i k : Nat) (h : i < l.length) (hk : k < l.length) (hl : l.length ≤ 24) (hli : l[i].ck.length ≤ 3) (hlk : l[k].ck.length = l[i].ck.length) (p1 : precE l[k] l[i] = true) (p2 : precE l[i] l[k] = true) : AW Try.prog 152 (cAt Try.f26 [2, 2, 2, 2, 2, 1, 2, 5, 7, 2, 2, 1, 5, 2, 2, 5, 7]) (mk [(0, .c (.sl true 5 (edts true l))), (1, .c (.sc (.int .i64 n))), (13, .pt 13000 []  0), (123, .c (.sl true 5 (edts true l))), (124, .c (.sc (.int .i64 (l.length : Int)))), (125, .c (.sc (.int .i64 (i : Int)))), (129, .c (.sl true 5 (edts true l))), (130, .c (.sc (.int .i64 (l.length : Int)))), (131, .c (.sc (.int .i64 (k : Int))))] [(13000, .bx (edtC true l[i]))]) (Ih3Q l n i k h hk) := by
  have e1 : wrap64 ((k : Int) + 1) = ((k + 1 : Nat) : Int) := by rw [w64 (by omega) (by omega)]; omega
  have c1 := c_impl_Precedes l[k] l[i] (by omega)
  rw [p1] at c1
  have c2 := c_impl_Precedes l[i] l[k] (by omega)
  rw [p2] at c2
  have hb : Hd (¬ (precE l[k] l[i] = true → precE l[i] l[k] = false ∧ noGr l[k].ck l[i].ck = true)) := fun hh => by have := (hh p1).1; rw [p2] at this; cases this
  clear p1 p2 hlk hli
  repeat' (first | with_reducible refine OutOK.done ?_ | refine thenQ_n ?_ | refine thenQ_r ?_ | refine thenQ_e ?_ | refine AW.seq ?_ | refine AW.dreg tok mixed [15, 25, 26, 27, 28]  [(0, false), (2, false), (3, false), (1, false), (4, false), (5, false), (6, false), (7, false), (8, false), (9, false), (10, false), (11, false), (12, false), (13, false), (14, false), (15, true), (16, false), (17, false), (18, false), (19, false), (20, false), (21, false), (23, false), (24, false), (22, false), (25, true), (26, true), (27, true), (28, true), (29, false), (30, false)] (by decide +kernel) rfl (by simp [*]; rfl) ?_ | refine AW.dreg tok mixed [9, 13]  [(0, false), (3, false), (1, false), (2, false), (4, false), (5, false), (6, false), (8, false), (12, false), (7, false), (9, true), (10, false), (11, false), (13, true), (14, false), (15, false), (16, false), (17, false), (18, false), (19, false), (20, false), (21, false), (22, false), (23, false), (24, false), (25, false), (26, false), (27, false)] (by decide +kernel) rfl (by simp [*]; rfl) ?_ | refine AW.reg tok (by simp [*]; rfl) ?_ | refine AW.ifB (by simp [*]; rfl) ?_ | refine IfG.t ?_ | refine IfG.f ?_ | (refine IfG.p (fun hg => ?_) (fun hg => ?_) <;> (try (have hg' := hg; simp at hg'))) | (refine IfG.n (fun hg => ?_) (fun hg => ?_) <;> (try (have hg' := hg; simp at hg'))) | (refine OutOK.gateP (fun hg => ?_) (fun hg => ?_) <;> (try (have hg' := hg; simp at hg'))) | (refine OutOK.gateN (fun hg => ?_) (fun hg => ?_) <;> (try (have hg' := hg; simp at hg'))) | (refine IfG.g (fun hg => ?_) (fun hg => ?_) <;> (try (have hg' := hg; simp at hg'))) | (refine OutOK.gate (fun hg => ?_) (fun hg => ?_) <;> (try (have hg' := hg; simp at hg'))) | (refine OutOK.callF [] (by simp [*]; rfl) (by simp [*]; rfl) (by simp [*]; rfl) hb40 (by apply c1 <;> first | assumption | exact Hd.out (by assumption) | ((try (clear e0)); (try (clear e1)); (try (clear e2)); (try (clear e3)); (try (clear e4)); (try (clear e5)); (try (clear e6)); (try (clear e7)); (try (clear e8)); (try (clear e9)); (try (clear e10)); (try (clear e11)); omega)) ⟨by simp [*], by simp [*], by simp [*], by simp [*], by simp [*]⟩ (by simp [*]) (by simp [*]; rfl) ?_) | (refine OutOK.callF [] (by simp [*]; rfl) (by simp [*]; rfl) (by simp [*]; rfl) hb40 (by apply c2 <;> first | assumption | exact Hd.out (by assumption) | ((try (clear e0)); (try (clear e1)); (try (clear e2)); (try (clear e3)); (try (clear e4)); (try (clear e5)); (try (clear e6)); (try (clear e7)); (try (clear e8)); (try (clear e9)); (try (clear e10)); (try (clear e11)); omega)) ⟨by simp [*], by simp [*], by simp [*], by simp [*], by simp [*]⟩ (by simp [*]) (by simp [*]; rfl) ?_) | refine OutOK.run (by simp [*]; rfl) ?_ | refine AW.ret ?_ | refine AW.skip ?_ | refine AW.exit ?_ | refine fin_r ?_ | refine fin_n ?_ | refine AW.block ?_ | refine blockQ_n ?_ | refine blockQ_r ?_ | refine blockQ_e ?_ | refine blockQ_o rfl ?_)
  exact .inl ⟨rfl, hb.out, by simp [Try.f26]⟩
theorem w_ih3c (l : List Edt) (n : Int) (i k : Nat) (h : i < l.length) (hk : k < l.length) (hl : l.length ≤ 24) (hli : l[i].ck.length ≤ 3) (hlk : l[k].ck.length = l[i].ck.length) (p1 : precE l[k] l[i] = true) (p2 : precE l[i] l[k] = false) (p3 : noGr l[k].ck l[i].ck = false) : AW Try.prog 152 (cAt Try.f26 [2, 2, 2, 2, 2, 1, 2, 5, 7, 2, 2, 1, 5, 2, 2, 5, 7]) (mk [(0, .c (.sl true 5 (edts true l))), (1, .c (.sc (.int .i64 n))), (13, .pt 13000 []  0), (123, .c (.sl true 5 (edts true l))), (124, .c (.sc (.int .i64 (l.length : Int)))), (125, .c (.sc (.int .i64 (i : Int)))), (129, .c (.sl true 5 (edts true l))), (130, .c (.sc (.int .i64 (l.length : Int)))), (131, .c (.sc (.int .i64 (k : Int))))] [(13000, .bx (edtC true l[i]))]) (Ih3Q l n i k h hk) := by
  have e1 : wrap64 ((k : Int) + 1) = ((k + 1 : Nat) : Int) := by rw [w64 (by omega) (by omega)]; omega
  have c1 := c_impl_Precedes l[k] l[i] (by omega)
  rw [p1] at c1
  have c2 := c_impl_Precedes l[i] l[k] (by omega)
  rw [p2] at c2
  have c3 := c_impl_noGreater l[k].ck l[i].ck (by omega) (by omega)
  rw [p3] at c3
  have hb : Hd (¬ (precE l[k] l[i] = true → precE l[i] l[k] = false ∧ noGr l[k].ck l[i].ck = true)) := fun hh => by have := (hh p1).2; rw [p3] at this; cases this
  clear p1 p2 p3 hlk hli
  repeat' (first | with_reducible refine OutOK.done ?_ | refine thenQ_n ?_ | refine thenQ_r ?_ | refine thenQ_e ?_ | refine AW.seq ?_ | refine AW.dreg tok mixed [15, 25, 26, 27, 28]  [(0, false), (2, false), (3, false), (1, false), (4, false), (5, false), (6, false), (7, false), (8, false), (9, false), (10, false), (11, false), (12, false), (13, false), (14, false), (15, true), (16, false), (17, false), (18, false), (19, false), (20, false), (21, false), (23, false), (24, false), (22, false), (25, true), (26, true), (27, true), (28, true), (29, false), (30, false)] (by decide +kernel) rfl (by simp [*]; rfl) ?_ | refine AW.dreg tok mixed [9, 13]  [(0, false), (3, false), (1, false), (2, false), (4, false), (5, false), (6, false), (8, false), (12, false), (7, false), (9, true), (10, false), (11, false), (13, true), (14, false), (15, false), (16, false), (17, false), (18, false), (19, false), (20, false), (21, false), (22, false), (23, false), (24, false), (25, false), (26, false), (27, false)] (by decide +kernel) rfl (by simp [*]; rfl) ?_ | refine AW.reg tok (by simp [*]; rfl) ?_ | refine AW.ifB (by simp [*]; rfl) ?_ | refine IfG.t ?_ | refine IfG.f ?_ | (refine IfG.p (fun hg => ?_) (fun hg => ?_) <;> (try (have hg' := hg; simp at hg'))) | (refine IfG.n (fun hg => ?_) (fun hg => ?_) <;> (try (have hg' := hg; simp at hg'))) | (refine OutOK.gateP (fun hg => ?_) (fun hg => ?_) <;> (try (have hg' := hg; simp at hg'))) | (refine OutOK.gateN (fun hg => ?_) (fun hg => ?_) <;> (try (have hg' := hg; simp at hg'))) | (refine IfG.g (fun hg => ?_) (fun hg => ?_) <;> (try (have hg' := hg; simp at hg'))) | (refine OutOK.gate (fun hg => ?_) (fun hg => ?_) <;> (try (have hg' := hg; simp at hg'))) | (refine OutOK.callF [] (by simp [*]; rfl) (by simp [*]; rfl) (by simp [*]; rfl) hb40 (by apply c1 <;> first | assumption | exact Hd.out (by assumption) | ((try (clear e0)); (try (clear e1)); (try (clear e2)); (try (clear e3)); (try (clear e4)); (try (clear e5)); (try (clear e6)); (try (clear e7)); (try (clear e8)); (try (clear e9)); (try (clear e10)); (try (clear e11)); omega)) ⟨by simp [*], by simp [*], by simp [*], by simp [*], by simp [*]⟩ (by simp [*]) (by simp [*]; rfl) ?_) | (refine OutOK.callF [] (by simp [*]; rfl) (by simp [*]; rfl) (by simp [*]; rfl) hb40 (by apply c2 <;> first | assumption | exact Hd.out (by assumption) | ((try (clear e0)); (try (clear e1)); (try (clear e2)); (try (clear e3)); (try (clear e4)); (try (clear e5)); (try (clear e6)); (try (clear e7)); (try (clear e8)); (try (clear e9)); (try (clear e10)); (try (clear e11)); omega)) ⟨by simp [*], by simp [*], by simp [*], by simp [*], by simp [*]⟩ (by simp [*]) (by simp [*]; rfl) ?_) | (refine OutOK.callF [] (by simp [*]; rfl) (by simp [*]; rfl) (by simp [*]; rfl) hb79 (by apply c3 <;> first | assumption | exact Hd.out (by assumption) | ((try (clear e0)); (try (clear e1)); (try (clear e2)); (try (clear e3)); (try (clear e4)); (try (clear e5)); (try (clear e6)); (try (clear e7)); (try (clear e8)); (try (clear e9)); (try (clear e10)); (try (clear e11)); omega)) ⟨by simp [*], by simp [*], by simp [*], by simp [*], by simp [*]⟩ (by simp [*]) (by simp [*]; rfl) ?_) | refine OutOK.run (by simp [*]; rfl) ?_ | refine AW.ret ?_ | refine AW.skip ?_ | refine AW.exit ?_ | refine fin_r ?_ | refine fin_n ?_ | refine AW.block ?_ | refine blockQ_n ?_ | refine blockQ_r ?_ | refine blockQ_e ?_ | refine blockQ_o rfl ?_)
  exact .inl ⟨rfl, hb.out, by simp [Try.f26]⟩
theorem w_ih3d (l : List Edt) (n : Int) (i k : Nat) (h : i < l.length) (hk : k < l.length) (hl : l.length ≤ 24) (hli : l[i].ck.length ≤ 3) (hlk : l[k].ck.length = l[i].ck.length) (p1 : precE l[k] l[i] = true) (p2 : precE l[i] l[k] = false) (p3 : noGr l[k].ck l[i].ck = true) : AW Try.prog 152 (cAt Try.f26 [2, 2, 2, 2, 2, 1, 2, 5, 7, 2, 2, 1, 5, 2, 2, 5, 7]) (mk [(0, .c (.sl true 5 (edts true l))), (1, .c (.sc (.int .i64 n))), (13, .pt 13000 []  0), (123, .c (.sl true 5 (edts true l))), (124, .c (.sc (.int .i64 (l.length : Int)))), (125, .c (.sc (.int .i64 (i : Int)))), (129, .c (.sl true 5 (edts true l))), (130, .c (.sc (.int .i64 (l.length : Int)))), (131, .c (.sc (.int .i64 (k : Int))))] [(13000, .bx (edtC true l[i]))]) (Ih3Q l n i k h hk) := by
  have e1 : wrap64 ((k : Int) + 1) = ((k + 1 : Nat) : Int) := by rw [w64 (by omega) (by omega)]; omega
  have c1 := c_impl_Precedes l[k] l[i] (by omega)
  rw [p1] at c1
  have c2 := c_impl_Precedes l[i] l[k] (by omega)
  rw [p2] at c2
  have c3 := c_impl_noGreater l[k].ck l[i].ck (by omega) (by omega)
  rw [p3] at c3
  have hb : Hd ((precE l[k] l[i] = true → precE l[i] l[k] = false ∧ noGr l[k].ck l[i].ck = true)) := fun _ => ⟨p2, p3⟩
  clear p1 p2 p3 hlk hli
  repeat' (first | with_reducible refine OutOK.done ?_ | refine thenQ_n ?_ | refine thenQ_r ?_ | refine thenQ_e ?_ | refine AW.seq ?_ | refine AW.dreg tok mixed [15, 25, 26, 27, 28]  [(0, false), (2, false), (3, false), (1, false), (4, false), (5, false), (6, false), (7, false), (8, false), (9, false), (10, false), (11, false), (12, false), (13, false), (14, false), (15, true), (16, false), (17, false), (18, false), (19, false), (20, false), (21, false), (23, false), (24, false), (22, false), (25, true), (26, true), (27, true), (28, true), (29, false), (30, false)] (by decide +kernel) rfl (by simp [*]; rfl) ?_ | refine AW.dreg tok mixed [9, 13]  [(0, false), (3, false), (1, false), (2, false), (4, false), (5, false), (6, false), (8, false), (12, false), (7, false), (9, true), (10, false), (11, false), (13, true), (14, false), (15, false), (16, false), (17, false), (18, false), (19, false), (20, false), (21, false), (22, false), (23, false), (24, false), (25, false), (26, false), (27, false)] (by decide +kernel) rfl (by simp [*]; rfl) ?_ | refine AW.reg tok (by simp [*]; rfl) ?_ | refine AW.ifB (by simp [*]; rfl) ?_ | refine IfG.t ?_ | refine IfG.f ?_ | (refine IfG.p (fun hg => ?_) (fun hg => ?_) <;> (try (have hg' := hg; simp at hg'))) | (refine IfG.n (fun hg => ?_) (fun hg => ?_) <;> (try (have hg' := hg; simp at hg'))) | (refine OutOK.gateP (fun hg => ?_) (fun hg => ?_) <;> (try (have hg' := hg; simp at hg'))) | (refine OutOK.gateN (fun hg => ?_) (fun hg => ?_) <;> (try (have hg' := hg; simp at hg'))) | (refine IfG.g (fun hg => ?_) (fun hg => ?_) <;> (try (have hg' := hg; simp at hg'))) | (refine OutOK.gate (fun hg => ?_) (fun hg => ?_) <;> (try (have hg' := hg; simp at hg'))) | (refine OutOK.callF [] (by simp [*]; rfl) (by simp [*]; rfl) (by simp [*]; rfl) hb40 (by apply c1 <;> first | assumption | exact Hd.out (by assumption) | ((try (clear e0)); (try (clear e1)); (try (clear e2)); (try (clear e3)); (try (clear e4)); (try (clear e5)); (try (clear e6)); (try (clear e7)); (try (clear e8)); (try (clear e9)); (try (clear e10)); (try (clear e11)); omega)) ⟨by simp [*], by simp [*], by simp [*], by simp [*], by simp [*]⟩ (by simp [*]) (by simp [*]; rfl) ?_) | (refine OutOK.callF [] (by simp [*]; rfl) (by simp [*]; rfl) (by simp [*]; rfl) hb40 (by apply c2 <;> first | assumption | exact Hd.out (by assumption) | ((try (clear e0)); (try (clear e1)); (try (clear e2)); (try (clear e3)); (try (clear e4)); (try (clear e5)); (try (clear e6)); (try (clear e7)); (try (clear e8)); (try (clear e9)); (try (clear e10)); (try (clear e11)); omega)) ⟨by simp [*], by simp [*], by simp [*], by simp [*], by simp [*]⟩ (by simp [*]) (by simp [*]; rfl) ?_) | (refine OutOK.callF [] (by simp [*]; rfl) (by simp [*]; rfl) (by simp [*]; rfl) hb79 (by apply c3 <;> first | assumption | exact Hd.out (by assumption) | ((try (clear e0)); (try (clear e1)); (try (clear e2)); (try (clear e3)); (try (clear e4)); (try (clear e5)); (try (clear e6)); (try (clear e7)); (try (clear e8)); (try (clear e9)); (try (clear e10)); (try (clear e11)); omega)) ⟨by simp [*], by simp [*], by simp [*], by simp [*], by simp [*]⟩ (by simp [*]) (by simp [*]; rfl) ?_) | refine OutOK.run (by simp [*]; rfl) ?_ | refine AW.ret ?_ | refine AW.skip ?_ | refine AW.exit ?_ | refine fin_r ?_ | refine fin_n ?_ | refine AW.block ?_ | refine blockQ_n ?_ | refine blockQ_r ?_ | refine blockQ_e ?_ | refine blockQ_o rfl ?_)
  exact .inr ⟨rfl, hb.out, by simp, by simp, by simp⟩
theorem w_ih3 (l : List Edt) (n : Int) (i k : Nat) (h : i < l.length) (hk : k < l.length) (hl : l.length ≤ 24) (hli : l[i].ck.length ≤ 3) (hlk : l[k].ck.length = l[i].ck.length) : AW Try.prog 152 (cAt Try.f26 [2, 2, 2, 2, 2, 1, 2, 5, 7, 2, 2, 1, 5, 2, 2, 5, 7]) (mk [(0, .c (.sl true 5 (edts true l))), (1, .c (.sc (.int .i64 n))), (13, .pt 13000 []  0), (123, .c (.sl true 5 (edts true l))), (124, .c (.sc (.int .i64 (l.length : Int)))), (125, .c (.sc (.int .i64 (i : Int)))), (129, .c (.sl true 5 (edts true l))), (130, .c (.sc (.int .i64 (l.length : Int)))), (131, .c (.sc (.int .i64 (k : Int))))] [(13000, .bx (edtC true l[i]))]) (Ih3Q l n i k h hk) := by
  cases p1 : precE l[k] l[i] with
  | false => exact w_ih3a l n i k h hk hl hli hlk p1
  | true =>
    cases p2 : precE l[i] l[k] with
    | true => exact w_ih3b l n i k h hk hl hli hlk p1 p2
    | false =>
      cases p3 : noGr l[k].ck l[i].ck with
      | false => exact w_ih3c l n i k h hk hl hli hlk p1 p2 p3
      | true => exact w_ih3d l n i k h hk hl hli hlk p1 p2 p3
theorem c_impl_IsValidHistory (l : List Edt) (n : Int) (h : l.length ≤ 4611686018427387904) (hW : ∀ e ∈ l, EdtW e) : ACall Try.prog 26 [.v (.sl true 5 (edts true l)), int n] [.x, .x] [boo (hist l n)] := by
  have hW' : Hd _ := hW
  clear hW
  cases hR : inR 1 3 n with
  | false =>
    have hb : hist l n = false := hist_no (fun hh => by have := hh.nn; rw [hR] at this; cases this)
    rw [hb]
    clear hb
    refine ACall.of (N := 152) tok Try.func26 rfl rfl rfl (by simp) ?_
    repeat' (first | with_reducible refine OutOK.done ?_ | refine thenQ_n ?_ | refine thenQ_r ?_ | refine thenQ_e ?_ | refine AW.seq ?_ | refine AW.dreg tok mixed [15, 25, 26, 27, 28]  [(0, false), (2, false), (3, false), (1, false), (4, false), (5, false), (6, false), (7, false), (8, false), (9, false), (10, false), (11, false), (12, false), (13, false), (14, false), (15, true), (16, false), (17, false), (18, false), (19, false), (20, false), (21, false), (23, false), (24, false), (22, false), (25, true), (26, true), (27, true), (28, true), (29, false), (30, false)] (by decide +kernel) rfl (by simp [*]; rfl) ?_ | refine AW.dreg tok mixed [9, 13]  [(0, false), (3, false), (1, false), (2, false), (4, false), (5, false), (6, false), (8, false), (12, false), (7, false), (9, true), (10, false), (11, false), (13, true), (14, false), (15, false), (16, false), (17, false), (18, false), (19, false), (20, false), (21, false), (22, false), (23, false), (24, false), (25, false), (26, false), (27, false)] (by decide +kernel) rfl (by simp [*]; rfl) ?_ | refine AW.reg tok (by simp [*]; rfl) ?_ | refine AW.ifB (by simp [*]; rfl) ?_ | refine IfG.t ?_ | refine IfG.f ?_ | (refine IfG.p (fun hg => ?_) (fun hg => ?_) <;> (try (have hg' := hg; simp at hg'))) | (refine IfG.n (fun hg => ?_) (fun hg => ?_) <;> (try (have hg' := hg; simp at hg'))) | (refine OutOK.gateP (fun hg => ?_) (fun hg => ?_) <;> (try (have hg' := hg; simp at hg'))) | (refine OutOK.gateN (fun hg => ?_) (fun hg => ?_) <;> (try (have hg' := hg; simp at hg'))) | (refine IfG.g (fun hg => ?_) (fun hg => ?_) <;> (try (have hg' := hg; simp at hg'))) | (refine OutOK.gate (fun hg => ?_) (fun hg => ?_) <;> (try (have hg' := hg; simp at hg'))) | (refine OutOK.callF [] (by simp [*]; rfl) (by simp [*]; rfl) (by simp [*]; rfl) hb59 (by apply c_impl_within <;> first | assumption | exact Hd.out (by assumption) | ((try (clear e0)); (try (clear e1)); (try (clear e2)); (try (clear e3)); (try (clear e4)); (try (clear e5)); (try (clear e6)); (try (clear e7)); (try (clear e8)); (try (clear e9)); (try (clear e10)); (try (clear e11)); omega)) ⟨by simp [*], by simp [*], by simp [*], by simp [*], by simp [*]⟩ (by simp [*]) (by simp [*]; rfl) ?_) | refine OutOK.run (by simp [*]; rfl) ?_ | refine AW.ret ?_ | refine AW.skip ?_ | refine AW.exit ?_ | refine fin_r ?_ | refine fin_n ?_ | refine AW.block ?_ | refine blockQ_n ?_ | refine blockQ_r ?_ | refine blockQ_e ?_ | refine blockQ_o rfl ?_)
    simp [Try.f26]
  | true =>
  rcases Nat.lt_or_ge 24 l.length with h24 | h24
  · have hb : hist l n = false := hist_no (fun hh => by have := hh.len; omega)
    rw [hb]
    have h24' : (24 : Int) < l.length := by omega
    clear hb
    refine ACall.of (N := 152) tok Try.func26 rfl rfl rfl (by simp) ?_
    repeat' (first | with_reducible refine OutOK.done ?_ | refine thenQ_n ?_ | refine thenQ_r ?_ | refine thenQ_e ?_ | refine AW.seq ?_ | refine AW.dreg tok mixed [15, 25, 26, 27, 28]  [(0, false), (2, false), (3, false), (1, false), (4, false), (5, false), (6, false), (7, false), (8, false), (9, false), (10, false), (11, false), (12, false), (13, false), (14, false), (15, true), (16, false), (17, false), (18, false), (19, false), (20, false), (21, false), (23, false), (24, false), (22, false), (25, true), (26, true), (27, true), (28, true), (29, false), (30, false)] (by decide +kernel) rfl (by simp [*]; rfl) ?_ | refine AW.dreg tok mixed [9, 13]  [(0, false), (3, false), (1, false), (2, false), (4, false), (5, false), (6, false), (8, false), (12, false), (7, false), (9, true), (10, false), (11, false), (13, true), (14, false), (15, false), (16, false), (17, false), (18, false), (19, false), (20, false), (21, false), (22, false), (23, false), (24, false), (25, false), (26, false), (27, false)] (by decide +kernel) rfl (by simp [*]; rfl) ?_ | refine AW.reg tok (by simp [*]; rfl) ?_ | refine AW.ifB (by simp [*]; rfl) ?_ | refine IfG.t ?_ | refine IfG.f ?_ | (refine IfG.p (fun hg => ?_) (fun hg => ?_) <;> (try (have hg' := hg; simp at hg'))) | (refine IfG.n (fun hg => ?_) (fun hg => ?_) <;> (try (have hg' := hg; simp at hg'))) | (refine OutOK.gateP (fun hg => ?_) (fun hg => ?_) <;> (try (have hg' := hg; simp at hg'))) | (refine OutOK.gateN (fun hg => ?_) (fun hg => ?_) <;> (try (have hg' := hg; simp at hg'))) | (refine IfG.g (fun hg => ?_) (fun hg => ?_) <;> (try (have hg' := hg; simp at hg'))) | (refine OutOK.gate (fun hg => ?_) (fun hg => ?_) <;> (try (have hg' := hg; simp at hg'))) | (refine OutOK.callF [] (by simp [*]; rfl) (by simp [*]; rfl) (by simp [*]; rfl) hb59 (by apply c_impl_within <;> first | assumption | exact Hd.out (by assumption) | ((try (clear e0)); (try (clear e1)); (try (clear e2)); (try (clear e3)); (try (clear e4)); (try (clear e5)); (try (clear e6)); (try (clear e7)); (try (clear e8)); (try (clear e9)); (try (clear e10)); (try (clear e11)); omega)) ⟨by simp [*], by simp [*], by simp [*], by simp [*], by simp [*]⟩ (by simp [*]) (by simp [*]; rfl) ?_) | refine OutOK.run (by simp [*]; rfl) ?_ | refine AW.ret ?_ | refine AW.skip ?_ | refine AW.exit ?_ | refine fin_r ?_ | refine fin_n ?_ | refine AW.block ?_ | refine blockQ_n ?_ | refine blockQ_r ?_ | refine blockQ_e ?_ | refine blockQ_o rfl ?_)
    simp [Try.f26]
  have h24' : ¬ (24 : Int) < l.length := by omega
  obtain ⟨n1, n3⟩ := inR_iff.1 hR
  have no : Hd (¬ Hist l n → hist l n = false) := fun hh => hist_no hh
  have yes : Hd (Hist l n → hist l n = true) := fun hh => hist_iff'.2 hh
  generalize hist l n = B at *
  have b1 : n * 8 ≤ 140737488355328 := by omega
  have b2 : n ≤ 4611686018427387904 := by omega
  have hn0 : 0 ≤ n := by omega
  have hz : Hd (cts l n 0 = List.replicate n.toNat 0) := cts_zero l n
  refine ACall.of (N := 152) tok Try.func26 rfl rfl rfl (by simp) ?_
  repeat' (first | with_reducible refine OutOK.done ?_ | refine thenQ_n ?_ | refine thenQ_r ?_ | refine thenQ_e ?_ | refine AW.seq ?_ | refine AW.dreg tok mixed [15, 25, 26, 27, 28]  [(0, false), (2, false), (3, false), (1, false), (4, false), (5, false), (6, false), (7, false), (8, false), (9, false), (10, false), (11, false), (12, false), (13, false), (14, false), (15, true), (16, false), (17, false), (18, false), (19, false), (20, false), (21, false), (23, false), (24, false), (22, false), (25, true), (26, true), (27, true), (28, true), (29, false), (30, false)] (by decide +kernel) rfl (by simp [*]; rfl) ?_ | refine AW.dreg tok mixed [9, 13]  [(0, false), (3, false), (1, false), (2, false), (4, false), (5, false), (6, false), (8, false), (12, false), (7, false), (9, true), (10, false), (11, false), (13, true), (14, false), (15, false), (16, false), (17, false), (18, false), (19, false), (20, false), (21, false), (22, false), (23, false), (24, false), (25, false), (26, false), (27, false)] (by decide +kernel) rfl (by simp [*]; rfl) ?_ | refine AW.reg tok (by simp [*]; rfl) ?_ | refine AW.ifB (by simp [*]; rfl) ?_ | refine IfG.t ?_ | refine IfG.f ?_ | (refine IfG.p (fun hg => ?_) (fun hg => ?_) <;> (try (have hg' := hg; simp at hg'))) | (refine IfG.n (fun hg => ?_) (fun hg => ?_) <;> (try (have hg' := hg; simp at hg'))) | (refine OutOK.gateP (fun hg => ?_) (fun hg => ?_) <;> (try (have hg' := hg; simp at hg'))) | (refine OutOK.gateN (fun hg => ?_) (fun hg => ?_) <;> (try (have hg' := hg; simp at hg'))) | (refine IfG.g (fun hg => ?_) (fun hg => ?_) <;> (try (have hg' := hg; simp at hg'))) | (refine OutOK.gate (fun hg => ?_) (fun hg => ?_) <;> (try (have hg' := hg; simp at hg'))) | (refine OutOK.callF [] (by simp [*]; rfl) (by simp [*]; rfl) (by simp [*]; rfl) hb59 (by apply c_impl_within <;> first | assumption | exact Hd.out (by assumption) | ((try (clear e0)); (try (clear e1)); (try (clear e2)); (try (clear e3)); (try (clear e4)); (try (clear e5)); (try (clear e6)); (try (clear e7)); (try (clear e8)); (try (clear e9)); (try (clear e10)); (try (clear e11)); omega)) ⟨by simp [*], by simp [*], by simp [*], by simp [*], by simp [*]⟩ (by simp [*]) (by simp [*]; rfl) ?_) | refine OutOK.run (by simp [*]; rfl) ?_ | refine AW.ret ?_ | refine AW.skip ?_ | refine AW.exit ?_ | refine fin_r ?_ | refine fin_n ?_ | refine AW.block ?_ | refine blockQ_n ?_ | refine blockQ_r ?_ | refine blockQ_e ?_ | refine blockQ_o rfl ?_)
  refine AW.loopL (α := Nat) (fun i => i ≤ l.length ∧ Hd (∀ j (hj : j < l.length), j < i → St1 l n j hj ∧ Fl l[j] n)) (fun i => [(0, .c (.sl true 5 (edts true l))), (1, .c (.sc (.int .i64 n))), (5, .rf 25000 []), (26, .c (.sl true 5 (edts true l))), (27, .c (.sc (.int .i64 (l.length : Int)))), (28, .c (.sc (.int .i64 (i : Int))))]) (fun i => [(25000, .sv (.sl false 1 (ints (cts l n i))))]) (fun i => l.length - i) 0 ⟨Nat.zero_le _, fun j _ hj => by omega⟩ ⟨by simp, by simp [hz.out], by simp⟩ ?_
  rintro i ⟨hi, hs⟩
  rcases Nat.lt_or_ge i l.length with hil | hil
  · refine (w_ih1 l n i hil h24 n1 n3 (hW'.out _ (List.getElem_mem hil))).mono fun e st hq => ?_
    rcases hq with ⟨rfl, hk, hq⟩ | ⟨rfl, hk, hq⟩
    · have hb := no.out (fun hh => hk ⟨hh.st i hil, hh.fl i hil⟩)
      subst hb
      exact ⟨.inr rfl, hq⟩
    · refine ⟨i + 1, ⟨hil, fun j hj hji => ?_⟩, hq, by omega⟩
      rcases Nat.lt_succ_iff_lt_or_eq.1 hji with h2 | rfl
      · exact hs.out j hj h2
      · exact hk
  have hii : i = l.length := by omega
  subst hii
  clear hz
  repeat' (first | with_reducible refine AW.stopB 2 ?_ | with_reducible refine OutOK.done ?_ | refine thenQ_n ?_ | refine thenQ_r ?_ | refine thenQ_e ?_ | refine AW.seq ?_ | refine AW.dreg tok mixed [15, 25, 26, 27, 28]  [(0, false), (2, false), (3, false), (1, false), (4, false), (5, false), (6, false), (7, false), (8, false), (9, false), (10, false), (11, false), (12, false), (13, false), (14, false), (15, true), (16, false), (17, false), (18, false), (19, false), (20, false), (21, false), (23, false), (24, false), (22, false), (25, true), (26, true), (27, true), (28, true), (29, false), (30, false)] (by decide +kernel) rfl (by simp [*]; rfl) ?_ | refine AW.dreg tok mixed [9, 13]  [(0, false), (3, false), (1, false), (2, false), (4, false), (5, false), (6, false), (8, false), (12, false), (7, false), (9, true), (10, false), (11, false), (13, true), (14, false), (15, false), (16, false), (17, false), (18, false), (19, false), (20, false), (21, false), (22, false), (23, false), (24, false), (25, false), (26, false), (27, false)] (by decide +kernel) rfl (by simp [*]; rfl) ?_ | refine AW.reg tok (by simp [*]; rfl) ?_ | refine AW.ifB (by simp [*]; rfl) ?_ | refine IfG.t ?_ | refine IfG.f ?_ | (refine IfG.p (fun hg => ?_) (fun hg => ?_) <;> (try (have hg' := hg; simp at hg'))) | (refine IfG.n (fun hg => ?_) (fun hg => ?_) <;> (try (have hg' := hg; simp at hg'))) | (refine OutOK.gateP (fun hg => ?_) (fun hg => ?_) <;> (try (have hg' := hg; simp at hg'))) | (refine OutOK.gateN (fun hg => ?_) (fun hg => ?_) <;> (try (have hg' := hg; simp at hg'))) | (refine IfG.g (fun hg => ?_) (fun hg => ?_) <;> (try (have hg' := hg; simp at hg'))) | (refine OutOK.gate (fun hg => ?_) (fun hg => ?_) <;> (try (have hg' := hg; simp at hg'))) | refine OutOK.run (by simp [*]; rfl) ?_ | refine AW.ret ?_ | refine AW.skip ?_ | refine AW.exit ?_ | refine fin_r ?_ | refine fin_n ?_ | refine AW.block ?_ | refine blockQ_n ?_ | refine blockQ_r ?_ | refine blockQ_e ?_ | refine blockQ_o rfl ?_)
  refine ⟨AW.forget [(0, .c (.sl true 5 (edts true l))), (1, .c (.sc (.int .i64 n))), (5, .rf 25000 []), (100, .c (.sl true 5 (edts true l))), (101, .c (.sc (.int .i64 (l.length : Int)))), (102, .c (.sc (.int .i64 0)))] [(25000, .sv (.sl false 1 (ints (cts l n l.length))))] ⟨by simp, by simp, by simp⟩ ?_⟩
  have hlen : ∀ a (ha : a < l.length), (l[a].ck.length : Int) = n := fun a ha => (hs.out a ha ha).2.1
  repeat' (first | with_reducible refine OutOK.done ?_ | refine thenQ_n ?_ | refine thenQ_r ?_ | refine thenQ_e ?_ | refine AW.seq ?_ | refine AW.dreg tok mixed [15, 25, 26, 27, 28]  [(0, false), (2, false), (3, false), (1, false), (4, false), (5, false), (6, false), (7, false), (8, false), (9, false), (10, false), (11, false), (12, false), (13, false), (14, false), (15, true), (16, false), (17, false), (18, false), (19, false), (20, false), (21, false), (23, false), (24, false), (22, false), (25, true), (26, true), (27, true), (28, true), (29, false), (30, false)] (by decide +kernel) rfl (by simp [*]; rfl) ?_ | refine AW.dreg tok mixed [9, 13]  [(0, false), (3, false), (1, false), (2, false), (4, false), (5, false), (6, false), (8, false), (12, false), (7, false), (9, true), (10, false), (11, false), (13, true), (14, false), (15, false), (16, false), (17, false), (18, false), (19, false), (20, false), (21, false), (22, false), (23, false), (24, false), (25, false), (26, false), (27, false)] (by decide +kernel) rfl (by simp [*]; rfl) ?_ | refine AW.reg tok (by simp [*]; rfl) ?_ | refine AW.ifB (by simp [*]; rfl) ?_ | refine IfG.t ?_ | refine IfG.f ?_ | (refine IfG.p (fun hg => ?_) (fun hg => ?_) <;> (try (have hg' := hg; simp at hg'))) | (refine IfG.n (fun hg => ?_) (fun hg => ?_) <;> (try (have hg' := hg; simp at hg'))) | (refine OutOK.gateP (fun hg => ?_) (fun hg => ?_) <;> (try (have hg' := hg; simp at hg'))) | (refine OutOK.gateN (fun hg => ?_) (fun hg => ?_) <;> (try (have hg' := hg; simp at hg'))) | (refine IfG.g (fun hg => ?_) (fun hg => ?_) <;> (try (have hg' := hg; simp at hg'))) | (refine OutOK.gate (fun hg => ?_) (fun hg => ?_) <;> (try (have hg' := hg; simp at hg'))) | refine OutOK.run (by simp [*]; rfl) ?_ | refine AW.ret ?_ | refine AW.skip ?_ | refine AW.exit ?_ | refine fin_r ?_ | refine fin_n ?_ | refine AW.block ?_ | refine blockQ_n ?_ | refine blockQ_r ?_ | refine blockQ_e ?_ | refine blockQ_o rfl ?_)
  refine AW.loopL (α := Nat) (fun i => i ≤ l.length ∧ Hd (∀ j (hj : j < l.length), j < i → ∀ t < l[j].ck.length, inR 0 (cntE l (t : Int)) (ckAt l[j].ck (t : Int)) = true)) (fun i => [(0, .c (.sl true 5 (edts true l))), (1, .c (.sc (.int .i64 n))), (5, .rf 25000 []), (100, .c (.sl true 5 (edts true l))), (101, .c (.sc (.int .i64 (l.length : Int)))), (102, .c (.sc (.int .i64 (i : Int))))]) (fun i => [(25000, .sv (.sl false 1 (ints (cts l n l.length))))]) (fun i => l.length - i) 0 ⟨Nat.zero_le _, fun j _ hj => by omega⟩ ⟨by simp, by simp, by simp⟩ ?_
  rintro i ⟨hi, hs2⟩
  rcases Nat.lt_or_ge i l.length with hil | hil
  · refine (w_ih2 l n i hil h24 n1 n3 (hlen i hil)).mono fun e st hq => ?_
    rcases hq with ⟨rfl, hk, hq⟩ | ⟨rfl, hk, hq⟩
    · have hb := no.out (fun hh => hk (hh.ck i hil))
      subst hb
      exact ⟨.inr rfl, hq⟩
    · refine ⟨i + 1, ⟨hil, fun j hj hji => ?_⟩, hq, by omega⟩
      rcases Nat.lt_succ_iff_lt_or_eq.1 hji with h2 | rfl
      · exact hs2.out j hj h2
      · exact hk
  have hii : i = l.length := by omega
  subst hii
  have hlen' : Hd _ := hlen
  clear hlen
  repeat' (first | with_reducible refine OutOK.done ?_ | refine thenQ_n ?_ | refine thenQ_r ?_ | refine thenQ_e ?_ | refine AW.seq ?_ | refine AW.dreg tok mixed [15, 25, 26, 27, 28]  [(0, false), (2, false), (3, false), (1, false), (4, false), (5, false), (6, false), (7, false), (8, false), (9, false), (10, false), (11, false), (12, false), (13, false), (14, false), (15, true), (16, false), (17, false), (18, false), (19, false), (20, false), (21, false), (23, false), (24, false), (22, false), (25, true), (26, true), (27, true), (28, true), (29, false), (30, false)] (by decide +kernel) rfl (by simp [*]; rfl) ?_ | refine AW.dreg tok mixed [9, 13]  [(0, false), (3, false), (1, false), (2, false), (4, false), (5, false), (6, false), (8, false), (12, false), (7, false), (9, true), (10, false), (11, false), (13, true), (14, false), (15, false), (16, false), (17, false), (18, false), (19, false), (20, false), (21, false), (22, false), (23, false), (24, false), (25, false), (26, false), (27, false)] (by decide +kernel) rfl (by simp [*]; rfl) ?_ | refine AW.reg tok (by simp [*]; rfl) ?_ | refine AW.ifB (by simp [*]; rfl) ?_ | refine IfG.t ?_ | refine IfG.f ?_ | (refine IfG.p (fun hg => ?_) (fun hg => ?_) <;> (try (have hg' := hg; simp at hg'))) | (refine IfG.n (fun hg => ?_) (fun hg => ?_) <;> (try (have hg' := hg; simp at hg'))) | (refine OutOK.gateP (fun hg => ?_) (fun hg => ?_) <;> (try (have hg' := hg; simp at hg'))) | (refine OutOK.gateN (fun hg => ?_) (fun hg => ?_) <;> (try (have hg' := hg; simp at hg'))) | (refine IfG.g (fun hg => ?_) (fun hg => ?_) <;> (try (have hg' := hg; simp at hg'))) | (refine OutOK.gate (fun hg => ?_) (fun hg => ?_) <;> (try (have hg' := hg; simp at hg'))) | refine OutOK.run (by simp [*]; rfl) ?_ | refine AW.ret ?_ | refine AW.skip ?_ | refine AW.exit ?_ | refine fin_r ?_ | refine fin_n ?_ | refine AW.block ?_ | refine blockQ_n ?_ | refine blockQ_r ?_ | refine blockQ_e ?_ | refine blockQ_o rfl ?_)
  refine AW.loopL (α := Nat) (fun i => i ≤ l.length ∧ Hd (∀ j (hj : j < l.length), j < i → ∀ k (hk : k < l.length), precE l[k] l[j] = true → precE l[j] l[k] = false ∧ noGr l[k].ck l[j].ck = true)) (fun i => [(0, .c (.sl true 5 (edts true l))), (1, .c (.sc (.int .i64 n))), (123, .c (.sl true 5 (edts true l))), (124, .c (.sc (.int .i64 (l.length : Int)))), (125, .c (.sc (.int .i64 (i : Int))))]) (fun i => []) (fun i => l.length - i) 0 ⟨Nat.zero_le _, fun j _ hj => by omega⟩ ⟨by simp, by simp, by simp⟩ ?_
  rintro i ⟨hi, hs3⟩
  rcases Nat.lt_or_ge i l.length with hil | hil
  · have e1 : wrap64 ((i : Int) + 1) = ((i + 1 : Nat) : Int) := by rw [w64 (by omega) (by omega)]; omega
    have hli : l[i].ck.length ≤ 3 := by have := hlen'.out i hil; omega
    repeat' (first | with_reducible refine OutOK.done ?_ | refine thenQ_n ?_ | refine thenQ_r ?_ | refine thenQ_e ?_ | refine AW.seq ?_ | refine AW.dreg tok mixed [15, 25, 26, 27, 28]  [(0, false), (2, false), (3, false), (1, false), (4, false), (5, false), (6, false), (7, false), (8, false), (9, false), (10, false), (11, false), (12, false), (13, false), (14, false), (15, true), (16, false), (17, false), (18, false), (19, false), (20, false), (21, false), (23, false), (24, false), (22, false), (25, true), (26, true), (27, true), (28, true), (29, false), (30, false)] (by decide +kernel) rfl (by simp [*]; rfl) ?_ | refine AW.dreg tok mixed [9, 13]  [(0, false), (3, false), (1, false), (2, false), (4, false), (5, false), (6, false), (8, false), (12, false), (7, false), (9, true), (10, false), (11, false), (13, true), (14, false), (15, false), (16, false), (17, false), (18, false), (19, false), (20, false), (21, false), (22, false), (23, false), (24, false), (25, false), (26, false), (27, false)] (by decide +kernel) rfl (by simp [*]; rfl) ?_ | refine AW.reg tok (by simp [*]; rfl) ?_ | refine AW.ifB (by simp [*]; rfl) ?_ | refine IfG.t ?_ | refine IfG.f ?_ | (refine IfG.p (fun hg => ?_) (fun hg => ?_) <;> (try (have hg' := hg; simp at hg'))) | (refine IfG.n (fun hg => ?_) (fun hg => ?_) <;> (try (have hg' := hg; simp at hg'))) | (refine OutOK.gateP (fun hg => ?_) (fun hg => ?_) <;> (try (have hg' := hg; simp at hg'))) | (refine OutOK.gateN (fun hg => ?_) (fun hg => ?_) <;> (try (have hg' := hg; simp at hg'))) | (refine IfG.g (fun hg => ?_) (fun hg => ?_) <;> (try (have hg' := hg; simp at hg'))) | (refine OutOK.gate (fun hg => ?_) (fun hg => ?_) <;> (try (have hg' := hg; simp at hg'))) | refine OutOK.run (by simp [*]; rfl) ?_ | refine AW.ret ?_ | refine AW.skip ?_ | refine AW.exit ?_ | refine fin_r ?_ | refine fin_n ?_ | refine AW.block ?_ | refine blockQ_n ?_ | refine blockQ_r ?_ | refine blockQ_e ?_ | refine blockQ_o rfl ?_)
    refine AW.loopL (α := Nat) (fun k => k ≤ l.length ∧ Hd (∀ j (hj : j < l.length), j < k → precE l[j] l[i] = true → precE l[i] l[j] = false ∧ noGr l[j].ck l[i].ck = true)) (fun k => [(0, .c (.sl true 5 (edts true l))), (1, .c (.sc (.int .i64 n))), (13, .pt 13000 []  0), (123, .c (.sl true 5 (edts true l))), (124, .c (.sc (.int .i64 (l.length : Int)))), (125, .c (.sc (.int .i64 (i : Int)))), (129, .c (.sl true 5 (edts true l))), (130, .c (.sc (.int .i64 (l.length : Int)))), (131, .c (.sc (.int .i64 (k : Int))))]) (fun _ => [(13000, .bx (edtC true l[i]))]) (fun k => l.length - k) 0 ⟨Nat.zero_le _, fun j _ hj => by omega⟩ ⟨by simp, by simp, by simp⟩ ?_
    rintro k ⟨hk, hsk⟩
    rcases Nat.lt_or_ge k l.length with hkl | hkl
    · refine (w_ih3 l n i k hil hkl h24 hli (by have := hlen'.out i hil; have := hlen'.out k hkl; omega)).mono fun e st hq => ?_
      rcases hq with ⟨rfl, hk2, hq⟩ | ⟨rfl, hk2, hq⟩
      · have hb := no.out (fun hh => hk2 (hh.pr i hil k hkl))
        subst hb
        exact ⟨.inr rfl, hq⟩
      · refine ⟨k + 1, ⟨hkl, fun j hj hji => ?_⟩, hq, by omega⟩
        rcases Nat.lt_succ_iff_lt_or_eq.1 hji with h2 | rfl
        · exact hsk.out j hj h2
        · exact hk2
    · have hkn : ¬ k < l.length := by omega
      have hs4 : Hd (∀ j (hj : j < l.length), j < i + 1 → ∀ k (hk : k < l.length), precE l[k] l[j] = true → precE l[j] l[k] = false ∧ noGr l[k].ck l[j].ck = true) := by
        intro j hj hji
        rcases Nat.lt_succ_iff_lt_or_eq.1 hji with h2 | rfl
        · exact hs3.out j hj h2
        · exact fun q hq => hsk.out q hq (by omega)
      clear no yes
      repeat' (first | with_reducible refine OutOK.done ?_ | refine thenQ_n ?_ | refine thenQ_r ?_ | refine thenQ_e ?_ | refine AW.seq ?_ | refine AW.dreg tok mixed [15, 25, 26, 27, 28]  [(0, false), (2, false), (3, false), (1, false), (4, false), (5, false), (6, false), (7, false), (8, false), (9, false), (10, false), (11, false), (12, false), (13, false), (14, false), (15, true), (16, false), (17, false), (18, false), (19, false), (20, false), (21, false), (23, false), (24, false), (22, false), (25, true), (26, true), (27, true), (28, true), (29, false), (30, false)] (by decide +kernel) rfl (by simp [*]; rfl) ?_ | refine AW.dreg tok mixed [9, 13]  [(0, false), (3, false), (1, false), (2, false), (4, false), (5, false), (6, false), (8, false), (12, false), (7, false), (9, true), (10, false), (11, false), (13, true), (14, false), (15, false), (16, false), (17, false), (18, false), (19, false), (20, false), (21, false), (22, false), (23, false), (24, false), (25, false), (26, false), (27, false)] (by decide +kernel) rfl (by simp [*]; rfl) ?_ | refine AW.reg tok (by simp [*]; rfl) ?_ | refine AW.ifB (by simp [*]; rfl) ?_ | refine IfG.t ?_ | refine IfG.f ?_ | (refine IfG.p (fun hg => ?_) (fun hg => ?_) <;> (try (have hg' := hg; simp at hg'))) | (refine IfG.n (fun hg => ?_) (fun hg => ?_) <;> (try (have hg' := hg; simp at hg'))) | (refine OutOK.gateP (fun hg => ?_) (fun hg => ?_) <;> (try (have hg' := hg; simp at hg'))) | (refine OutOK.gateN (fun hg => ?_) (fun hg => ?_) <;> (try (have hg' := hg; simp at hg'))) | (refine IfG.g (fun hg => ?_) (fun hg => ?_) <;> (try (have hg' := hg; simp at hg'))) | (refine OutOK.gate (fun hg => ?_) (fun hg => ?_) <;> (try (have hg' := hg; simp at hg'))) | refine OutOK.run (by simp [*]; rfl) ?_ | refine AW.ret ?_ | refine AW.skip ?_ | refine AW.exit ?_ | refine fin_r ?_ | refine fin_n ?_ | refine AW.block ?_ | refine blockQ_n ?_ | refine blockQ_r ?_ | refine blockQ_e ?_ | refine blockQ_o rfl ?_)
      exact ⟨i + 1, ⟨hil, hs4⟩, ⟨by simp, by simp, by simp⟩, by ((try (clear e0)); (try (clear e1)); (try (clear e2)); (try (clear e3)); (try (clear e4)); (try (clear e5)); (try (clear e6)); (try (clear e7)); (try (clear e8)); (try (clear e9)); (try (clear e10)); (try (clear e11)); omega)⟩
  · have hin : ¬ i < l.length := by omega
    have hb : B = true := yes.out ⟨hR, h24, fun j hj => (hs.out j hj hj).1, fun j hj => (hs.out j hj hj).2, fun j hj => hs2.out j hj hj, fun j hj => hs3.out j hj (by omega)⟩
    subst hb
    clear no yes
    repeat' (first | with_reducible refine OutOK.done ?_ | refine thenQ_n ?_ | refine thenQ_r ?_ | refine thenQ_e ?_ | refine AW.seq ?_ | refine AW.dreg tok mixed [15, 25, 26, 27, 28]  [(0, false), (2, false), (3, false), (1, false), (4, false), (5, false), (6, false), (7, false), (8, false), (9, false), (10, false), (11, false), (12, false), (13, false), (14, false), (15, true), (16, false), (17, false), (18, false), (19, false), (20, false), (21, false), (23, false), (24, false), (22, false), (25, true), (26, true), (27, true), (28, true), (29, false), (30, false)] (by decide +kernel) rfl (by simp [*]; rfl) ?_ | refine AW.dreg tok mixed [9, 13]  [(0, false), (3, false), (1, false), (2, false), (4, false), (5, false), (6, false), (8, false), (12, false), (7, false), (9, true), (10, false), (11, false), (13, true), (14, false), (15, false), (16, false), (17, false), (18, false), (19, false), (20, false), (21, false), (22, false), (23, false), (24, false), (25, false), (26, false), (27, false)] (by decide +kernel) rfl (by simp [*]; rfl) ?_ | refine AW.reg tok (by simp [*]; rfl) ?_ | refine AW.ifB (by simp [*]; rfl) ?_ | refine IfG.t ?_ | refine IfG.f ?_ | (refine IfG.p (fun hg => ?_) (fun hg => ?_) <;> (try (have hg' := hg; simp at hg'))) | (refine IfG.n (fun hg => ?_) (fun hg => ?_) <;> (try (have hg' := hg; simp at hg'))) | (refine OutOK.gateP (fun hg => ?_) (fun hg => ?_) <;> (try (have hg' := hg; simp at hg'))) | (refine OutOK.gateN (fun hg => ?_) (fun hg => ?_) <;> (try (have hg' := hg; simp at hg'))) | (refine IfG.g (fun hg => ?_) (fun hg => ?_) <;> (try (have hg' := hg; simp at hg'))) | (refine OutOK.gate (fun hg => ?_) (fun hg => ?_) <;> (try (have hg' := hg; simp at hg'))) | refine OutOK.run (by simp [*]; rfl) ?_ | refine AW.ret ?_ | refine AW.skip ?_ | refine AW.exit ?_ | refine fin_r ?_ | refine fin_n ?_ | refine AW.block ?_ | refine blockQ_n ?_ | refine blockQ_r ?_ | refine blockQ_e ?_ | refine blockQ_o rfl ?_)
    simp [Try.f26]
end Go.Proofs.Ytbofobjofngoeaa.EngS


set_option linter.unusedSimpArgs false
set_option linter.unusedVariables false
set_option maxHeartbeats 4000000
set_option maxRecDepth 100000
namespace Go.Proofs.Ytbofobjofngoeaa.EngS
open Go Go.Proofs Go.Eng Go.RowKit
abbrev EdtX := Int × Int × List Int × ByteArray × ByteArray
def edtX (x : EdtX) : Edt := ⟨x.1, x.2.1, x.2.2.1, x.2.2.2.1, x.2.2.2.2⟩
theorem edts_X (l : List EdtX) : (l.map fun x => PV.ag [PV.sc (.int .i64 x.1), PV.sc (.int .i64 x.2.1), PV.sl true 1 (x.2.2.1.map (fun n => PV.sc (.int .i64 n))), PV.sc (.string x.2.2.2.1), PV.sc (.string x.2.2.2.2)]) = edts true (l.map edtX) := by
  rw [edts, els, List.map_map]; rfl
def WfX (x : List EdtX) : Prop := x.length ≤ maxLen ∧ ∀ y ∈ x, (Lit.int .i64 y.1).wf = true ∧ (Lit.int .i64 y.2.1).wf = true ∧ (y.2.2.1.length ≤ maxLen ∧ ∀ z ∈ y.2.2.1, (Lit.int .i64 z).wf = true) ∧ y.2.2.2.1.size ≤ maxLen ∧ y.2.2.2.2.size ≤ maxLen
theorem WfX.v {x : List EdtX} (h : WfX x) : (x.map edtX).length ≤ 9223372036854775807 ∧ ∀ e ∈ x.map edtX, EdtV e := by
  have hm : maxLen = 9223372036854775807 := rfl
  refine ⟨by rw [List.length_map, ← hm]; exact h.1, fun e he => ?_⟩
  obtain ⟨y, hy, rfl⟩ := List.mem_map.1 he
  obtain ⟨-, -, h3, h4, h5⟩ := h.2 y hy
  rw [hm] at h3 h4 h5
  exact ⟨h4, h5, h3.1⟩
theorem hist_len {l : List Edt} {n : Int} (h : hist l n = true) : l.length ≤ 24 := (hist_iff'.1 h).len
end Go.Proofs.Ytbofobjofngoeaa.EngS


set_option linter.unusedSimpArgs false
set_option linter.unusedVariables false
set_option maxHeartbeats 4000000
set_option maxRecDepth 100000
namespace Go.Proofs.Ytbofobjofngoeaa.EngS
open Go Go.Proofs Go.Eng Go.RowKit
theorem c_IndexFunc_edt (l : List Edt) (f : Nat) (C1 C2 : List PV) (p : Edt → Bool) (h : l.length ≤ 9223372036854775806) (hbf : HasBody Try.prog f) (cf : ∀ x ∈ l, ACall Try.prog f [edtD x, .p C1, .p C2] [.x, .p C1, .p C2] [boo (p x)]) :
    ACall Try.prog 124 [.v (.sl true 5 (edts true l)), .f f [C1, C2]] [.x, .f f [C1, C2]] [int (idx p l)] := by
  replace cf : Hd _ := cf
  refine ACall.of (N := 19) tok Try.func124 rfl rfl rfl (by simp) ?_
  repeat' (first | with_reducible refine OutOK.done ?_ | refine thenQ_n ?_ | refine thenQ_r ?_ | refine thenQ_e ?_ | refine AW.seq ?_ | refine AW.reg tok (by simp [*]; rfl) ?_ | refine AW.ifB (by simp [*]; rfl) ?_ | refine IfG.t ?_ | refine IfG.f ?_ | (refine IfG.p (fun hg => ?_) (fun hg => ?_) <;> (try (have hg' := hg; simp at hg'))) | (refine IfG.n (fun hg => ?_) (fun hg => ?_) <;> (try (have hg' := hg; simp at hg'))) | (refine OutOK.gateP (fun hg => ?_) (fun hg => ?_) <;> (try (have hg' := hg; simp at hg'))) | (refine OutOK.gateN (fun hg => ?_) (fun hg => ?_) <;> (try (have hg' := hg; simp at hg'))) | (refine IfG.g (fun hg => ?_) (fun hg => ?_) <;> (try (have hg' := hg; simp at hg'))) | (refine OutOK.gate (fun hg => ?_) (fun hg => ?_) <;> (try (have hg' := hg; simp at hg'))) | refine OutOK.run (by simp [*]; rfl) ?_ | refine AW.ret ?_ | refine AW.skip ?_ | refine AW.exit ?_ | refine fin_r ?_ | refine fin_n ?_ | refine AW.block ?_ | refine blockQ_n ?_ | refine blockQ_r ?_ | refine blockQ_e ?_ | refine blockQ_o rfl ?_)
  refine AW.loopL (fun i => i ≤ l.length ∧ Hd ((l.take i).any p = false)) (fun i => [(0, .c (.sl true 5 (edts true l))), (1, .fn f [.pt 100000051 [] 0, .pt 100000052 [] 0]), (7, .c (.sc (.int .i64 (l.length : Int)))), (8, .c (.sc (.int .i64 (i : Int))))]) (fun _ => [(100000051, .bx C1), (100000052, .bx C2)]) (fun i => l.length - i) 0 ⟨Nat.zero_le _, by simp [Hd]⟩ ⟨by simp, by simp, by simp⟩ ?_
  rintro i ⟨hi, hs⟩
  rcases Nat.lt_or_ge i l.length with hl | hl
  · have e1 : wrap64 ((i : Int) + 1) = ((i + 1 : Nat) : Int) := by rw [w64 (by omega) (by omega)]; omega
    have cs := cf.out l[i] (List.getElem_mem hl)
    cases hp : p l[i] with
    | true =>
      rw [hp] at cs
      have hf : idx p l = (i : Int) := idx_at hl hs.out hp
      clear cf
      repeat' (first | with_reducible refine OutOK.done ?_ | refine thenQ_n ?_ | refine thenQ_r ?_ | refine thenQ_e ?_ | refine AW.seq ?_ | refine AW.reg tok (by simp [*]; rfl) ?_ | refine AW.ifB (by simp [*]; rfl) ?_ | refine IfG.t ?_ | refine IfG.f ?_ | (refine IfG.p (fun hg => ?_) (fun hg => ?_) <;> (try (have hg' := hg; simp at hg'))) | (refine IfG.n (fun hg => ?_) (fun hg => ?_) <;> (try (have hg' := hg; simp at hg'))) | (refine OutOK.gateP (fun hg => ?_) (fun hg => ?_) <;> (try (have hg' := hg; simp at hg'))) | (refine OutOK.gateN (fun hg => ?_) (fun hg => ?_) <;> (try (have hg' := hg; simp at hg'))) | (refine IfG.g (fun hg => ?_) (fun hg => ?_) <;> (try (have hg' := hg; simp at hg'))) | (refine OutOK.gate (fun hg => ?_) (fun hg => ?_) <;> (try (have hg' := hg; simp at hg'))) | (refine OutOK.callF [] (by simp [*]; rfl) (by simp [*]; rfl) (by simp [*]; rfl) hbf (by apply cs <;> first | assumption | exact Hd.out (by assumption) | ((try (clear e0)); (try (clear e1)); (try (clear e2)); (try (clear e3)); (try (clear e4)); (try (clear e5)); (try (clear e6)); (try (clear e7)); (try (clear e8)); (try (clear e9)); (try (clear e10)); (try (clear e11)); omega)) ⟨by simp [*], by simp [*], by simp [*], by simp [*], by simp [*]⟩ (by simp [*]) (by simp [*]; rfl) ?_) | refine OutOK.run (by simp [*]; rfl) ?_ | refine AW.ret ?_ | refine AW.skip ?_ | refine AW.exit ?_ | refine fin_r ?_ | refine fin_n ?_ | refine AW.block ?_ | refine blockQ_n ?_ | refine blockQ_r ?_ | refine blockQ_e ?_ | refine blockQ_o rfl ?_)
      simp [Try.f124, hf]
    | false =>
      rw [hp] at cs
      have hs2 : Hd ((l.take (i + 1)).any p = false) := any_more hl hs.out hp
      clear cf
      repeat' (first | with_reducible refine OutOK.done ?_ | refine thenQ_n ?_ | refine thenQ_r ?_ | refine thenQ_e ?_ | refine AW.seq ?_ | refine AW.reg tok (by simp [*]; rfl) ?_ | refine AW.ifB (by simp [*]; rfl) ?_ | refine IfG.t ?_ | refine IfG.f ?_ | (refine IfG.p (fun hg => ?_) (fun hg => ?_) <;> (try (have hg' := hg; simp at hg'))) | (refine IfG.n (fun hg => ?_) (fun hg => ?_) <;> (try (have hg' := hg; simp at hg'))) | (refine OutOK.gateP (fun hg => ?_) (fun hg => ?_) <;> (try (have hg' := hg; simp at hg'))) | (refine OutOK.gateN (fun hg => ?_) (fun hg => ?_) <;> (try (have hg' := hg; simp at hg'))) | (refine IfG.g (fun hg => ?_) (fun hg => ?_) <;> (try (have hg' := hg; simp at hg'))) | (refine OutOK.gate (fun hg => ?_) (fun hg => ?_) <;> (try (have hg' := hg; simp at hg'))) | (refine OutOK.callF [] (by simp [*]; rfl) (by simp [*]; rfl) (by simp [*]; rfl) hbf (by apply cs <;> first | assumption | exact Hd.out (by assumption) | ((try (clear e0)); (try (clear e1)); (try (clear e2)); (try (clear e3)); (try (clear e4)); (try (clear e5)); (try (clear e6)); (try (clear e7)); (try (clear e8)); (try (clear e9)); (try (clear e10)); (try (clear e11)); omega)) ⟨by simp [*], by simp [*], by simp [*], by simp [*], by simp [*]⟩ (by simp [*]) (by simp [*]; rfl) ?_) | refine OutOK.run (by simp [*]; rfl) ?_ | refine AW.ret ?_ | refine AW.skip ?_ | refine AW.exit ?_ | refine fin_r ?_ | refine fin_n ?_ | refine AW.block ?_ | refine blockQ_n ?_ | refine blockQ_r ?_ | refine blockQ_e ?_ | refine blockQ_o rfl ?_)
      exact ⟨i + 1, ⟨hl, hs2⟩, ⟨by simp, by simp, by simp⟩, by ((try (clear e0)); (try (clear e1)); (try (clear e2)); (try (clear e3)); (try (clear e4)); (try (clear e5)); (try (clear e6)); (try (clear e7)); (try (clear e8)); (try (clear e9)); (try (clear e10)); (try (clear e11)); omega)⟩
  · have hf : idx p l = -1 := idx_none (any_end hl hs.out)
    have hn : ¬ i < l.length := by omega
    clear cf
    repeat' (first | with_reducible refine OutOK.done ?_ | refine thenQ_n ?_ | refine thenQ_r ?_ | refine thenQ_e ?_ | refine AW.seq ?_ | refine AW.reg tok (by simp [*]; rfl) ?_ | refine AW.ifB (by simp [*]; rfl) ?_ | refine IfG.t ?_ | refine IfG.f ?_ | (refine IfG.p (fun hg => ?_) (fun hg => ?_) <;> (try (have hg' := hg; simp at hg'))) | (refine IfG.n (fun hg => ?_) (fun hg => ?_) <;> (try (have hg' := hg; simp at hg'))) | (refine OutOK.gateP (fun hg => ?_) (fun hg => ?_) <;> (try (have hg' := hg; simp at hg'))) | (refine OutOK.gateN (fun hg => ?_) (fun hg => ?_) <;> (try (have hg' := hg; simp at hg'))) | (refine IfG.g (fun hg => ?_) (fun hg => ?_) <;> (try (have hg' := hg; simp at hg'))) | (refine OutOK.gate (fun hg => ?_) (fun hg => ?_) <;> (try (have hg' := hg; simp at hg'))) | refine OutOK.run (by simp [*]; rfl) ?_ | refine AW.ret ?_ | refine AW.skip ?_ | refine AW.exit ?_ | refine fin_r ?_ | refine fin_n ?_ | refine AW.block ?_ | refine blockQ_n ?_ | refine blockQ_r ?_ | refine blockQ_e ?_ | refine blockQ_o rfl ?_)
    simp [Try.f124, hf]
theorem c_ContainsFunc_edt (l : List Edt) (f : Nat) (C1 C2 : List PV) (p : Edt → Bool) (h : l.length ≤ 9223372036854775806) (hbf : HasBody Try.prog f) (cf : ∀ x ∈ l, ACall Try.prog f [edtD x, .p C1, .p C2] [.x, .p C1, .p C2] [boo (p x)]) :
    ACall Try.prog 121 [.v (.sl true 5 (edts true l)), .f f [C1, C2]] [.x, .f f [C1, C2]] [boo (l.any p)] := by
  have ci := c_IndexFunc_edt l f C1 C2 p h hbf cf
  have hb : Hd (decide (0 ≤ idx p l) = l.any p) := idx_any
  generalize l.any p = B at *
  generalize idx p l = I at *
  clear cf
  refine ACall.of (N := 9) tok Try.func121 rfl rfl rfl (by simp) ?_
  repeat' (first | with_reducible refine OutOK.done ?_ | refine thenQ_n ?_ | refine thenQ_r ?_ | refine thenQ_e ?_ | refine AW.seq ?_ | refine AW.reg tok (by simp [*]; rfl) ?_ | refine AW.ifB (by simp [*]; rfl) ?_ | refine IfG.t ?_ | refine IfG.f ?_ | (refine IfG.p (fun hg => ?_) (fun hg => ?_) <;> (try (have hg' := hg; simp at hg'))) | (refine IfG.n (fun hg => ?_) (fun hg => ?_) <;> (try (have hg' := hg; simp at hg'))) | (refine OutOK.gateP (fun hg => ?_) (fun hg => ?_) <;> (try (have hg' := hg; simp at hg'))) | (refine OutOK.gateN (fun hg => ?_) (fun hg => ?_) <;> (try (have hg' := hg; simp at hg'))) | (refine IfG.g (fun hg => ?_) (fun hg => ?_) <;> (try (have hg' := hg; simp at hg'))) | (refine OutOK.gate (fun hg => ?_) (fun hg => ?_) <;> (try (have hg' := hg; simp at hg'))) | (refine OutOK.callF [] (by simp [*]; rfl) (by simp [*]; rfl) (by simp [*]; rfl) hb124 (by apply ci <;> first | assumption | exact Hd.out (by assumption) | ((try (clear e0)); (try (clear e1)); (try (clear e2)); (try (clear e3)); (try (clear e4)); (try (clear e5)); (try (clear e6)); (try (clear e7)); (try (clear e8)); (try (clear e9)); (try (clear e10)); (try (clear e11)); omega)) ⟨by simp [*], by simp [*], by simp [*], by simp [*], by simp [*]⟩ (by simp [*]) (by simp [*]; rfl) ?_) | refine OutOK.run (by simp [*]; rfl) ?_ | refine AW.ret ?_ | refine AW.skip ?_ | refine AW.exit ?_ | refine fin_r ?_ | refine fin_n ?_ | refine AW.block ?_ | refine blockQ_n ?_ | refine blockQ_r ?_ | refine blockQ_e ?_ | refine blockQ_o rfl ?_)
  simp [Try.f121, hb.out]
def curK (item : ByteArray) (e f : Edt) : Bool := decide (f.it.toList = item.toList) && precE e f
theorem c_impl_current_1 (e f : Edt) (item : ByteArray) (h : f.ck.length ≤ 3) : ACall Try.prog 122 [edtD f, .p [.sc (.string item)], .p (edtC true e)] [.x, .p [.sc (.string item)], .p (edtC true e)] [boo (curK item e f)] := by
  have cp := c_impl_Precedes e f (by omega)
  by_cases hc : f.it.toList = item.toList
  · have hk : curK item e f = precE e f := by simp [curK, hc]
    rw [hk]
    generalize precE e f = B at *
    clear hk
    refine ACall.of (N := 14) tok Try.func122 rfl rfl rfl (by simp) ?_
    repeat' (first | with_reducible refine OutOK.done ?_ | refine thenQ_n ?_ | refine thenQ_r ?_ | refine thenQ_e ?_ | refine AW.seq ?_ | refine AW.reg tok (by simp [*]; rfl) ?_ | refine AW.ifB (by simp [*]; rfl) ?_ | refine IfG.t ?_ | refine IfG.f ?_ | (refine IfG.p (fun hg => ?_) (fun hg => ?_) <;> (try (have hg' := hg; simp at hg'))) | (refine IfG.n (fun hg => ?_) (fun hg => ?_) <;> (try (have hg' := hg; simp at hg'))) | (refine OutOK.gateP (fun hg => ?_) (fun hg => ?_) <;> (try (have hg' := hg; simp at hg'))) | (refine OutOK.gateN (fun hg => ?_) (fun hg => ?_) <;> (try (have hg' := hg; simp at hg'))) | (refine IfG.g (fun hg => ?_) (fun hg => ?_) <;> (try (have hg' := hg; simp at hg'))) | (refine OutOK.gate (fun hg => ?_) (fun hg => ?_) <;> (try (have hg' := hg; simp at hg'))) | (refine OutOK.callF [] (by simp [*]; rfl) (by simp [*]; rfl) (by simp [*]; rfl) hb40 (by apply cp <;> first | assumption | exact Hd.out (by assumption) | ((try (clear e0)); (try (clear e1)); (try (clear e2)); (try (clear e3)); (try (clear e4)); (try (clear e5)); (try (clear e6)); (try (clear e7)); (try (clear e8)); (try (clear e9)); (try (clear e10)); (try (clear e11)); omega)) ⟨by simp [*], by simp [*], by simp [*], by simp [*], by simp [*]⟩ (by simp [*]) (by simp [*]; rfl) ?_) | refine OutOK.run (by simp [*]; rfl) ?_ | refine AW.ret ?_ | refine AW.skip ?_ | refine AW.exit ?_ | refine fin_r ?_ | refine fin_n ?_ | refine AW.block ?_ | refine blockQ_n ?_ | refine blockQ_r ?_ | refine blockQ_e ?_ | refine blockQ_o rfl ?_)
    all_goals simp [Try.f122]
  · have hk : curK item e f = false := by simp [curK, hc]
    rw [hk]
    clear hk
    refine ACall.of (N := 14) tok Try.func122 rfl rfl rfl (by simp) ?_
    repeat' (first | with_reducible refine OutOK.done ?_ | refine thenQ_n ?_ | refine thenQ_r ?_ | refine thenQ_e ?_ | refine AW.seq ?_ | refine AW.reg tok (by simp [*]; rfl) ?_ | refine AW.ifB (by simp [*]; rfl) ?_ | refine IfG.t ?_ | refine IfG.f ?_ | (refine IfG.p (fun hg => ?_) (fun hg => ?_) <;> (try (have hg' := hg; simp at hg'))) | (refine IfG.n (fun hg => ?_) (fun hg => ?_) <;> (try (have hg' := hg; simp at hg'))) | (refine OutOK.gateP (fun hg => ?_) (fun hg => ?_) <;> (try (have hg' := hg; simp at hg'))) | (refine OutOK.gateN (fun hg => ?_) (fun hg => ?_) <;> (try (have hg' := hg; simp at hg'))) | (refine IfG.g (fun hg => ?_) (fun hg => ?_) <;> (try (have hg' := hg; simp at hg'))) | (refine OutOK.gate (fun hg => ?_) (fun hg => ?_) <;> (try (have hg' := hg; simp at hg'))) | (refine OutOK.callF [] (by simp [*]; rfl) (by simp [*]; rfl) (by simp [*]; rfl) hb40 (by apply cp <;> first | assumption | exact Hd.out (by assumption) | ((try (clear e0)); (try (clear e1)); (try (clear e2)); (try (clear e3)); (try (clear e4)); (try (clear e5)); (try (clear e6)); (try (clear e7)); (try (clear e8)); (try (clear e9)); (try (clear e10)); (try (clear e11)); omega)) ⟨by simp [*], by simp [*], by simp [*], by simp [*], by simp [*]⟩ (by simp [*]) (by simp [*]; rfl) ?_) | refine OutOK.run (by simp [*]; rfl) ?_ | refine AW.ret ?_ | refine AW.skip ?_ | refine AW.exit ?_ | refine fin_r ?_ | refine fin_n ?_ | refine AW.block ?_ | refine blockQ_n ?_ | refine blockQ_r ?_ | refine blockQ_e ?_ | refine blockQ_o rfl ?_)
    all_goals simp [Try.f122]
def isCur (l : List Edt) (item : ByteArray) (i : Nat) : Bool := decide ((l[i]?.getD default).it.toList = item.toList) && !(l.any (curK item (l[i]?.getD default)))
def curL (l : List Edt) (item : ByteArray) (n : Nat) : List Int := ((List.range n).filter (isCur l item)).map fun i : Nat => (i : Int)
theorem curL_yes {l : List Edt} {item : ByteArray} {i : Nat} (h : isCur l item i = true) : curL l item (i + 1) = curL l item i ++ [(i : Int)] := by simp [curL, List.range_succ, h]
theorem curL_no {l : List Edt} {item : ByteArray} {i : Nat} (h : isCur l item i = false) : curL l item (i + 1) = curL l item i := by simp [curL, List.range_succ, h]
theorem curL_len (l : List Edt) (item : ByteArray) (n : Nat) : (curL l item n).length ≤ n := by simpa [curL] using List.length_filter_le (isCur l item) (List.range n)
theorem c_impl_current (l : List Edt) (item : ByteArray) (h : l.length ≤ 24) (hck : ∀ e ∈ l, e.ck.length ≤ 3) : ACall Try.prog 83 [.v (.sl true 5 (edts true l)), .v (.sc (.string item))] [.x, .x] [.v (.sl false 1 (ints (curL l item l.length)))] := by
  have hck' : Hd _ := hck
  clear hck
  refine ACall.of (N := 34) tok Try.func83 rfl rfl rfl (by simp) ?_
  repeat' (first | with_reducible refine OutOK.done ?_ | refine thenQ_n ?_ | refine thenQ_r ?_ | refine thenQ_e ?_ | refine AW.seq ?_ | refine AW.reg tok (by simp [*]; rfl) ?_ | refine AW.ifB (by simp [*]; rfl) ?_ | refine IfG.t ?_ | refine IfG.f ?_ | (refine IfG.p (fun hg => ?_) (fun hg => ?_) <;> (try (have hg' := hg; simp at hg'))) | (refine IfG.n (fun hg => ?_) (fun hg => ?_) <;> (try (have hg' := hg; simp at hg'))) | (refine OutOK.gateP (fun hg => ?_) (fun hg => ?_) <;> (try (have hg' := hg; simp at hg'))) | (refine OutOK.gateN (fun hg => ?_) (fun hg => ?_) <;> (try (have hg' := hg; simp at hg'))) | (refine IfG.g (fun hg => ?_) (fun hg => ?_) <;> (try (have hg' := hg; simp at hg'))) | (refine OutOK.gate (fun hg => ?_) (fun hg => ?_) <;> (try (have hg' := hg; simp at hg'))) | refine OutOK.run (by simp [*]; rfl) ?_ | refine AW.ret ?_ | refine AW.skip ?_ | refine AW.exit ?_ | refine fin_r ?_ | refine fin_n ?_ | refine AW.block ?_ | refine blockQ_n ?_ | refine blockQ_r ?_ | refine blockQ_e ?_ | refine blockQ_o rfl ?_)
  refine AW.loopS (α := Nat) (fun i => i ≤ l.length) (fun i => [(0, .c (.sl true 5 (edts true l))), (3, .pt 3000 [] 0), (5, .rf 9000 []), (10, .c (.sl true 5 (edts true l))), (11, .c (.sc (.int .i64 (l.length : Int)))), (12, .c (.sc (.int .i64 (i : Int))))])
    (fun i => [(3000, .bx [.sc (.string item)]), (9000, .sv (.sl false 1 (ints (curL l item i))))]) (fun i => l.length - i) 0 (Nat.zero_le _) [] (by simp) ⟨by simp, by simp [curL], by simp⟩ ?_
  intro i hi
  rcases Nat.lt_or_ge i l.length with hl | hl
  · have e1 : wrap64 ((i : Int) + 1) = ((i + 1 : Nat) : Int) := by rw [w64 (by omega) (by omega)]; omega
    have hge : l[i]?.getD default = l[i] := by rw [List.getElem?_eq_getElem hl, Option.getD_some]
    have cc := c_ContainsFunc_edt l 122 [.sc (.string item)] (edtC true l[i]) (curK item l[i]) (by omega) (by simp) (fun x hx => c_impl_current_1 l[i] x item (hck'.out x hx))
    have hcl := curL_len l item i
    have hy : Hd (isCur l item i = true → curL l item (i + 1) = curL l item i ++ [(i : Int)]) := curL_yes
    have hno : Hd (isCur l item i = false → curL l item (i + 1) = curL l item i) := curL_no
    have hic : Hd (isCur l item i = (decide (l[i].it.toList = item.toList) && !(l.any (curK item l[i])))) := by rw [Hd, isCur, hge]
    generalize isCur l item i = ic at *
    generalize l.any (curK item l[i]) = A at *
    generalize hsn : curL l item (i + 1) = sn at *
    generalize curL l item i = so at *
    have hsn' : Hd _ := hsn
    clear hsn hge
    have b1 : (so.length + 1) * 8 ≤ 140737488355328 := by ((try (clear e0)); (try (clear e1)); (try (clear e2)); (try (clear e3)); (try (clear e4)); (try (clear e5)); (try (clear e6)); (try (clear e7)); (try (clear e8)); (try (clear e9)); (try (clear e10)); (try (clear e11)); omega)
    have b2 : so.length + 1 ≤ 4611686018427387904 := by ((try (clear e0)); (try (clear e1)); (try (clear e2)); (try (clear e3)); (try (clear e4)); (try (clear e5)); (try (clear e6)); (try (clear e7)); (try (clear e8)); (try (clear e9)); (try (clear e10)); (try (clear e11)); omega)
    by_cases hc : l[i].it.toList = item.toList
    · cases A with
      | true =>
        have := hno.out (by rw [hic.out]; simp)
        clear hic
        repeat' (first | with_reducible refine OutOK.done ?_ | refine thenQ_n ?_ | refine thenQ_r ?_ | refine thenQ_e ?_ | refine AW.seq ?_ | refine AW.reg tok (by simp [*]; rfl) ?_ | refine AW.ifB (by simp [*]; rfl) ?_ | refine IfG.t ?_ | refine IfG.f ?_ | (refine IfG.p (fun hg => ?_) (fun hg => ?_) <;> (try (have hg' := hg; simp at hg'))) | (refine IfG.n (fun hg => ?_) (fun hg => ?_) <;> (try (have hg' := hg; simp at hg'))) | (refine OutOK.gateP (fun hg => ?_) (fun hg => ?_) <;> (try (have hg' := hg; simp at hg'))) | (refine OutOK.gateN (fun hg => ?_) (fun hg => ?_) <;> (try (have hg' := hg; simp at hg'))) | (refine IfG.g (fun hg => ?_) (fun hg => ?_) <;> (try (have hg' := hg; simp at hg'))) | (refine OutOK.gate (fun hg => ?_) (fun hg => ?_) <;> (try (have hg' := hg; simp at hg'))) | (refine OutOK.callF [] (by simp [*]; rfl) (by simp [*]; rfl) (by simp [*]; rfl) hb121 (by apply cc <;> first | assumption | exact Hd.out (by assumption) | ((try (clear e0)); (try (clear e1)); (try (clear e2)); (try (clear e3)); (try (clear e4)); (try (clear e5)); (try (clear e6)); (try (clear e7)); (try (clear e8)); (try (clear e9)); (try (clear e10)); (try (clear e11)); omega)) ⟨by simp [*], by simp [*], by simp [*], by simp [*], by simp [*]⟩ (by simp [*]) (by simp [*]; rfl) ?_) | refine OutOK.run (by simp [*]; rfl) ?_ | refine AW.ret ?_ | refine AW.skip ?_ | refine AW.exit ?_ | refine fin_r ?_ | refine fin_n ?_ | refine AW.block ?_ | refine blockQ_n ?_ | refine blockQ_r ?_ | refine blockQ_e ?_ | refine blockQ_o rfl ?_)
        exact ⟨i + 1, hl, ⟨[], by simp, by simp, by simp [hsn'.out, this], by simp⟩, by ((try (clear e0)); (try (clear e1)); (try (clear e2)); (try (clear e3)); (try (clear e4)); (try (clear e5)); (try (clear e6)); (try (clear e7)); (try (clear e8)); (try (clear e9)); (try (clear e10)); (try (clear e11)); omega)⟩
      | false =>
        have := hy.out (by rw [hic.out]; simp [hc])
        clear hic
        repeat' (first | with_reducible refine OutOK.done ?_ | refine thenQ_n ?_ | refine thenQ_r ?_ | refine thenQ_e ?_ | refine AW.seq ?_ | refine AW.reg tok (by simp [*]; rfl) ?_ | refine AW.ifB (by simp [*]; rfl) ?_ | refine IfG.t ?_ | refine IfG.f ?_ | (refine IfG.p (fun hg => ?_) (fun hg => ?_) <;> (try (have hg' := hg; simp at hg'))) | (refine IfG.n (fun hg => ?_) (fun hg => ?_) <;> (try (have hg' := hg; simp at hg'))) | (refine OutOK.gateP (fun hg => ?_) (fun hg => ?_) <;> (try (have hg' := hg; simp at hg'))) | (refine OutOK.gateN (fun hg => ?_) (fun hg => ?_) <;> (try (have hg' := hg; simp at hg'))) | (refine IfG.g (fun hg => ?_) (fun hg => ?_) <;> (try (have hg' := hg; simp at hg'))) | (refine OutOK.gate (fun hg => ?_) (fun hg => ?_) <;> (try (have hg' := hg; simp at hg'))) | (refine OutOK.callF [] (by simp [*]; rfl) (by simp [*]; rfl) (by simp [*]; rfl) hb121 (by apply cc <;> first | assumption | exact Hd.out (by assumption) | ((try (clear e0)); (try (clear e1)); (try (clear e2)); (try (clear e3)); (try (clear e4)); (try (clear e5)); (try (clear e6)); (try (clear e7)); (try (clear e8)); (try (clear e9)); (try (clear e10)); (try (clear e11)); omega)) ⟨by simp [*], by simp [*], by simp [*], by simp [*], by simp [*]⟩ (by simp [*]) (by simp [*]; rfl) ?_) | refine OutOK.run (by simp [*]; rfl) ?_ | refine AW.ret ?_ | refine AW.skip ?_ | refine AW.exit ?_ | refine fin_r ?_ | refine fin_n ?_ | refine AW.block ?_ | refine blockQ_n ?_ | refine blockQ_r ?_ | refine blockQ_e ?_ | refine blockQ_o rfl ?_)
        exact ⟨i + 1, hl, ⟨[(31000, 9000)], by simp, by simp, by simp [hsn'.out, this], by simp⟩, by ((try (clear e0)); (try (clear e1)); (try (clear e2)); (try (clear e3)); (try (clear e4)); (try (clear e5)); (try (clear e6)); (try (clear e7)); (try (clear e8)); (try (clear e9)); (try (clear e10)); (try (clear e11)); omega)⟩
    · have := hno.out (by rw [hic.out]; simp [hc])
      clear hic
      repeat' (first | with_reducible refine OutOK.done ?_ | refine thenQ_n ?_ | refine thenQ_r ?_ | refine thenQ_e ?_ | refine AW.seq ?_ | refine AW.reg tok (by simp [*]; rfl) ?_ | refine AW.ifB (by simp [*]; rfl) ?_ | refine IfG.t ?_ | refine IfG.f ?_ | (refine IfG.p (fun hg => ?_) (fun hg => ?_) <;> (try (have hg' := hg; simp at hg'))) | (refine IfG.n (fun hg => ?_) (fun hg => ?_) <;> (try (have hg' := hg; simp at hg'))) | (refine OutOK.gateP (fun hg => ?_) (fun hg => ?_) <;> (try (have hg' := hg; simp at hg'))) | (refine OutOK.gateN (fun hg => ?_) (fun hg => ?_) <;> (try (have hg' := hg; simp at hg'))) | (refine IfG.g (fun hg => ?_) (fun hg => ?_) <;> (try (have hg' := hg; simp at hg'))) | (refine OutOK.gate (fun hg => ?_) (fun hg => ?_) <;> (try (have hg' := hg; simp at hg'))) | (refine OutOK.callF [] (by simp [*]; rfl) (by simp [*]; rfl) (by simp [*]; rfl) hb121 (by apply cc <;> first | assumption | exact Hd.out (by assumption) | ((try (clear e0)); (try (clear e1)); (try (clear e2)); (try (clear e3)); (try (clear e4)); (try (clear e5)); (try (clear e6)); (try (clear e7)); (try (clear e8)); (try (clear e9)); (try (clear e10)); (try (clear e11)); omega)) ⟨by simp [*], by simp [*], by simp [*], by simp [*], by simp [*]⟩ (by simp [*]) (by simp [*]; rfl) ?_) | refine OutOK.run (by simp [*]; rfl) ?_ | refine AW.ret ?_ | refine AW.skip ?_ | refine AW.exit ?_ | refine fin_r ?_ | refine fin_n ?_ | refine AW.block ?_ | refine blockQ_n ?_ | refine blockQ_r ?_ | refine blockQ_e ?_ | refine blockQ_o rfl ?_)
      exact ⟨i + 1, hl, ⟨[], by simp, by simp, by simp [hsn'.out, this], by simp⟩, by ((try (clear e0)); (try (clear e1)); (try (clear e2)); (try (clear e3)); (try (clear e4)); (try (clear e5)); (try (clear e6)); (try (clear e7)); (try (clear e8)); (try (clear e9)); (try (clear e10)); (try (clear e11)); omega)⟩
  · have hii : i = l.length := by omega
    subst hii
    repeat' (first | with_reducible refine OutOK.done ?_ | refine thenQ_n ?_ | refine thenQ_r ?_ | refine thenQ_e ?_ | refine AW.seq ?_ | refine AW.reg tok (by simp [*]; rfl) ?_ | refine AW.ifB (by simp [*]; rfl) ?_ | refine IfG.t ?_ | refine IfG.f ?_ | (refine IfG.p (fun hg => ?_) (fun hg => ?_) <;> (try (have hg' := hg; simp at hg'))) | (refine IfG.n (fun hg => ?_) (fun hg => ?_) <;> (try (have hg' := hg; simp at hg'))) | (refine OutOK.gateP (fun hg => ?_) (fun hg => ?_) <;> (try (have hg' := hg; simp at hg'))) | (refine OutOK.gateN (fun hg => ?_) (fun hg => ?_) <;> (try (have hg' := hg; simp at hg'))) | (refine IfG.g (fun hg => ?_) (fun hg => ?_) <;> (try (have hg' := hg; simp at hg'))) | (refine OutOK.gate (fun hg => ?_) (fun hg => ?_) <;> (try (have hg' := hg; simp at hg'))) | refine OutOK.run (by simp [*]; rfl) ?_ | refine AW.ret ?_ | refine AW.skip ?_ | refine AW.exit ?_ | refine fin_r ?_ | refine fin_n ?_ | refine AW.block ?_ | refine blockQ_n ?_ | refine blockQ_r ?_ | refine blockQ_e ?_ | refine blockQ_o rfl ?_)
    simp [Try.f83]
end Go.Proofs.Ytbofobjofngoeaa.EngS


set_option linter.unusedSimpArgs false
set_option linter.unusedVariables false
set_option maxHeartbeats 4000000
set_option maxRecDepth 100000
namespace Go.Proofs.Ytbofobjofngoeaa.EngS
open Go Go.Proofs Go.Eng Go.RowKit
def anyK (l : List Edt) (item : ByteArray) (e : Edt) (k : Nat) : Bool := (l.take k).any (curK item e)
theorem anyK_zero {l item e} : anyK l item e 0 = false := rfl
theorem anyK_yes {l : List Edt} {item e} {i : Nat} (h : i < l.length) (hp : curK item e l[i] = true) : anyK l item e (i + 1) = true := by
  rw [anyK, List.take_succ_eq_append_getElem h, List.any_append, List.any_cons, hp]; simp
theorem anyK_no {l : List Edt} {item e} {i : Nat} (h : i < l.length) (hp : curK item e l[i] = false) : anyK l item e (i + 1) = anyK l item e i := by
  rw [anyK, List.take_succ_eq_append_getElem h, List.any_append, List.any_cons, hp]; simp [anyK]
theorem anyK_all {l : List Edt} {item e} : anyK l item e l.length = l.any (curK item e) := by rw [anyK, List.take_length]
theorem c_spec_l22Current (l : List Edt) (item : ByteArray) (h : l.length ≤ 24) (hck : ∀ e ∈ l, e.ck.length ≤ 3) : ACall Try.prog 81 [.v (.sl true 5 (edts true l)), .v (.sc (.string item))] [.x, .x] [.v (.sl false 1 (ints (curL l item l.length)))] := by
  have hck' : Hd _ := hck
  clear hck
  refine ACall.of (N := 53) tok Try.func81 rfl rfl rfl (by simp) ?_
  repeat' (first | with_reducible refine OutOK.done ?_ | refine thenQ_n ?_ | refine thenQ_r ?_ | refine thenQ_e ?_ | refine AW.seq ?_ | refine AW.dreg tok mixed [15]  [(0, false), (1, false), (2, false), (3, false), (5, false), (4, false), (6, false), (7, false), (8, false), (9, false), (10, false), (12, false), (13, false), (14, false), (11, false), (15, true), (16, false), (17, false)] (by decide +kernel) rfl (by simp [*]; rfl) ?_ | refine AW.reg tok (by simp [*]; rfl) ?_ | refine AW.ifB (by simp [*]; rfl) ?_ | refine IfG.t ?_ | refine IfG.f ?_ | (refine IfG.p (fun hg => ?_) (fun hg => ?_) <;> (try (have hg' := hg; simp at hg'))) | (refine IfG.n (fun hg => ?_) (fun hg => ?_) <;> (try (have hg' := hg; simp at hg'))) | (refine OutOK.gateP (fun hg => ?_) (fun hg => ?_) <;> (try (have hg' := hg; simp at hg'))) | (refine OutOK.gateN (fun hg => ?_) (fun hg => ?_) <;> (try (have hg' := hg; simp at hg'))) | (refine IfG.g (fun hg => ?_) (fun hg => ?_) <;> (try (have hg' := hg; simp at hg'))) | (refine OutOK.gate (fun hg => ?_) (fun hg => ?_) <;> (try (have hg' := hg; simp at hg'))) | refine OutOK.run (by simp [*]; rfl) ?_ | refine AW.ret ?_ | refine AW.skip ?_ | refine AW.exit ?_ | refine fin_r ?_ | refine fin_n ?_ | refine AW.block ?_ | refine blockQ_n ?_ | refine blockQ_r ?_ | refine blockQ_e ?_ | refine blockQ_o rfl ?_)
  refine AW.loopS (α := Nat) (fun i => i ≤ l.length) (fun i => [(0, .c (.sl true 5 (edts true l))), (1, .c (.sc (.string item))), (5, .rf 9000 []), (6, .c (.sc (.int .i64 (i : Int))))])
    (fun i => [(9000, .sv (.sl false 1 (ints (curL l item i))))]) (fun i => l.length - i) 0 (Nat.zero_le _) [] (by simp) ⟨by simp, by simp [curL], by simp⟩ ?_
  intro i hi
  rcases Nat.lt_or_ge i l.length with hl | hl
  · have e1 : wrap64 ((i : Int) + 1) = ((i + 1 : Nat) : Int) := by rw [w64 (by omega) (by omega)]; omega
    have hge : l[i]?.getD default = l[i] := by rw [List.getElem?_eq_getElem hl, Option.getD_some]
    have hcl := curL_len l item i
    have hy : Hd (isCur l item i = true → curL l item (i + 1) = curL l item i ++ [(i : Int)]) := curL_yes
    have hno : Hd (isCur l item i = false → curL l item (i + 1) = curL l item i) := curL_no
    have hic : Hd (isCur l item i = (decide (l[i].it.toList = item.toList) && !(l.any (curK item l[i])))) := by rw [Hd, isCur, hge]
    generalize isCur l item i = ic at *
    generalize hsn : curL l item (i + 1) = sn at *
    generalize curL l item i = so at *
    have hsn' : Hd _ := hsn
    clear hsn hge
    have b1 : (so.length + 1) * 8 ≤ 140737488355328 := by ((try (clear e0)); (try (clear e1)); (try (clear e2)); (try (clear e3)); (try (clear e4)); (try (clear e5)); (try (clear e6)); (try (clear e7)); (try (clear e8)); (try (clear e9)); (try (clear e10)); (try (clear e11)); omega)
    have b2 : so.length + 1 ≤ 4611686018427387904 := by ((try (clear e0)); (try (clear e1)); (try (clear e2)); (try (clear e3)); (try (clear e4)); (try (clear e5)); (try (clear e6)); (try (clear e7)); (try (clear e8)); (try (clear e9)); (try (clear e10)); (try (clear e11)); omega)
    repeat' (first | with_reducible refine AW.stopB 2 ?_ | with_reducible refine OutOK.done ?_ | refine thenQ_n ?_ | refine thenQ_r ?_ | refine thenQ_e ?_ | refine AW.seq ?_ | refine AW.dreg tok mixed [15]  [(0, false), (1, false), (2, false), (3, false), (5, false), (4, false), (6, false), (7, false), (8, false), (9, false), (10, false), (12, false), (13, false), (14, false), (11, false), (15, true), (16, false), (17, false)] (by decide +kernel) rfl (by simp [*]; rfl) ?_ | refine AW.reg tok (by simp [*]; rfl) ?_ | refine AW.ifB (by simp [*]; rfl) ?_ | refine IfG.t ?_ | refine IfG.f ?_ | (refine IfG.p (fun hg => ?_) (fun hg => ?_) <;> (try (have hg' := hg; simp at hg'))) | (refine IfG.n (fun hg => ?_) (fun hg => ?_) <;> (try (have hg' := hg; simp at hg'))) | (refine OutOK.gateP (fun hg => ?_) (fun hg => ?_) <;> (try (have hg' := hg; simp at hg'))) | (refine OutOK.gateN (fun hg => ?_) (fun hg => ?_) <;> (try (have hg' := hg; simp at hg'))) | (refine IfG.g (fun hg => ?_) (fun hg => ?_) <;> (try (have hg' := hg; simp at hg'))) | (refine OutOK.gate (fun hg => ?_) (fun hg => ?_) <;> (try (have hg' := hg; simp at hg'))) | refine OutOK.run (by simp [*]; rfl) ?_ | refine AW.ret ?_ | refine AW.skip ?_ | refine AW.exit ?_ | refine fin_r ?_ | refine fin_n ?_ | refine AW.block ?_ | refine blockQ_n ?_ | refine blockQ_r ?_ | refine blockQ_e ?_ | refine blockQ_o rfl ?_)
    obtain ⟨c0, hc0⟩ : ∃ c0, decide (l[i].it.toList = item.toList) = c0 := ⟨_, rfl⟩
    refine ⟨AW.forget [(0, .c (.sl true 5 (edts true l))), (1, .c (.sc (.string item))), (5, .rf 9000 []), (6, .c (.sc (.int .i64 (i : Int)))), (7, .c (.sc (.bool c0))), (8, .c (.sc (.int .i64 0)))] [(9000, .sv (.sl false 1 (ints so)))] ⟨by simp [← hc0], by simp, by simp⟩ ?_⟩
    have hc0' : Hd _ := hc0
    clear hc0
    repeat' (first | with_reducible refine OutOK.done ?_ | refine thenQ_n ?_ | refine thenQ_r ?_ | refine thenQ_e ?_ | refine AW.seq ?_ | refine AW.dreg tok mixed [15]  [(0, false), (1, false), (2, false), (3, false), (5, false), (4, false), (6, false), (7, false), (8, false), (9, false), (10, false), (12, false), (13, false), (14, false), (11, false), (15, true), (16, false), (17, false)] (by decide +kernel) rfl (by simp [*]; rfl) ?_ | refine AW.reg tok (by simp [*]; rfl) ?_ | refine AW.ifB (by simp [*]; rfl) ?_ | refine IfG.t ?_ | refine IfG.f ?_ | (refine IfG.p (fun hg => ?_) (fun hg => ?_) <;> (try (have hg' := hg; simp at hg'))) | (refine IfG.n (fun hg => ?_) (fun hg => ?_) <;> (try (have hg' := hg; simp at hg'))) | (refine OutOK.gateP (fun hg => ?_) (fun hg => ?_) <;> (try (have hg' := hg; simp at hg'))) | (refine OutOK.gateN (fun hg => ?_) (fun hg => ?_) <;> (try (have hg' := hg; simp at hg'))) | (refine IfG.g (fun hg => ?_) (fun hg => ?_) <;> (try (have hg' := hg; simp at hg'))) | (refine OutOK.gate (fun hg => ?_) (fun hg => ?_) <;> (try (have hg' := hg; simp at hg'))) | refine OutOK.run (by simp [*]; rfl) ?_ | refine AW.ret ?_ | refine AW.skip ?_ | refine AW.exit ?_ | refine fin_r ?_ | refine fin_n ?_ | refine AW.block ?_ | refine blockQ_n ?_ | refine blockQ_r ?_ | refine blockQ_e ?_ | refine blockQ_o rfl ?_)
    refine AW.loopL (α := Nat) (fun k => k ≤ l.length) (fun k => [(0, .c (.sl true 5 (edts true l))), (1, .c (.sc (.string item))), (5, .rf 9000 []), (6, .c (.sc (.int .i64 (i : Int)))), (7, .c (.sc (.bool (c0 && !(anyK l item l[i] k))))), (8, .c (.sc (.int .i64 (k : Int))))]) (fun _ => [(9000, .sv (.sl false 1 (ints so)))]) (fun k => l.length - k) 0 (Nat.zero_le _) ⟨by simp [anyK_zero], by simp, by simp⟩ ?_
    intro k hk
    rcases Nat.lt_or_ge k l.length with hkl | hkl
    · have e2 : wrap64 ((k : Int) + 1) = ((k + 1 : Nat) : Int) := by rw [w64 (by omega) (by omega)]; omega
      have cp := c_spec_l22Precedes l[i] l[k] (by have := hck'.out _ (List.getElem_mem hkl); omega)
      have ty : Hd (curK item l[i] l[k] = true → anyK l item l[i] (k + 1) = true) := anyK_yes hkl
      have tn : Hd (curK item l[i] l[k] = false → anyK l item l[i] (k + 1) = anyK l item l[i] k) := anyK_no hkl
      by_cases hc : l[k].it.toList = item.toList
      · cases hp : precE l[i] l[k] with
        | true =>
          rw [hp] at cp
          have := ty.out (by simp [curK, hc, hp])
          clear hp
          repeat' (first | with_reducible refine OutOK.done ?_ | refine thenQ_n ?_ | refine thenQ_r ?_ | refine thenQ_e ?_ | refine AW.seq ?_ | refine AW.dreg tok mixed [15]  [(0, false), (1, false), (2, false), (3, false), (5, false), (4, false), (6, false), (7, false), (8, false), (9, false), (10, false), (12, false), (13, false), (14, false), (11, false), (15, true), (16, false), (17, false)] (by decide +kernel) rfl (by simp [*]; rfl) ?_ | refine AW.reg tok (by simp [*]; rfl) ?_ | refine AW.ifB (by simp [*]; rfl) ?_ | refine IfG.t ?_ | refine IfG.f ?_ | (refine IfG.p (fun hg => ?_) (fun hg => ?_) <;> (try (have hg' := hg; simp at hg'))) | (refine IfG.n (fun hg => ?_) (fun hg => ?_) <;> (try (have hg' := hg; simp at hg'))) | (refine OutOK.gateP (fun hg => ?_) (fun hg => ?_) <;> (try (have hg' := hg; simp at hg'))) | (refine OutOK.gateN (fun hg => ?_) (fun hg => ?_) <;> (try (have hg' := hg; simp at hg'))) | (refine IfG.g (fun hg => ?_) (fun hg => ?_) <;> (try (have hg' := hg; simp at hg'))) | (refine OutOK.gate (fun hg => ?_) (fun hg => ?_) <;> (try (have hg' := hg; simp at hg'))) | (refine OutOK.callF [] (by simp [*]; rfl) (by simp [*]; rfl) (by simp [*]; rfl) hb87 (by apply cp <;> first | assumption | exact Hd.out (by assumption) | ((try (clear e0)); (try (clear e1)); (try (clear e2)); (try (clear e3)); (try (clear e4)); (try (clear e5)); (try (clear e6)); (try (clear e7)); (try (clear e8)); (try (clear e9)); (try (clear e10)); (try (clear e11)); omega)) ⟨by simp [*], by simp [*], by simp [*], by simp [*], by simp [*]⟩ (by simp [*]) (by simp [*]; rfl) ?_) | refine OutOK.run (by simp [*]; rfl) ?_ | refine AW.ret ?_ | refine AW.skip ?_ | refine AW.exit ?_ | refine fin_r ?_ | refine fin_n ?_ | refine AW.block ?_ | refine blockQ_n ?_ | refine blockQ_r ?_ | refine blockQ_e ?_ | refine blockQ_o rfl ?_)
          exact ⟨k + 1, hkl, ⟨by simp [this], by simp, by simp⟩, by ((try (clear e0)); (try (clear e1)); (try (clear e2)); (try (clear e3)); (try (clear e4)); (try (clear e5)); (try (clear e6)); (try (clear e7)); (try (clear e8)); (try (clear e9)); (try (clear e10)); (try (clear e11)); omega)⟩
        | false =>
          rw [hp] at cp
          have := tn.out (by simp [curK, hc, hp])
          clear hp
          repeat' (first | with_reducible refine OutOK.done ?_ | refine thenQ_n ?_ | refine thenQ_r ?_ | refine thenQ_e ?_ | refine AW.seq ?_ | refine AW.dreg tok mixed [15]  [(0, false), (1, false), (2, false), (3, false), (5, false), (4, false), (6, false), (7, false), (8, false), (9, false), (10, false), (12, false), (13, false), (14, false), (11, false), (15, true), (16, false), (17, false)] (by decide +kernel) rfl (by simp [*]; rfl) ?_ | refine AW.reg tok (by simp [*]; rfl) ?_ | refine AW.ifB (by simp [*]; rfl) ?_ | refine IfG.t ?_ | refine IfG.f ?_ | (refine IfG.p (fun hg => ?_) (fun hg => ?_) <;> (try (have hg' := hg; simp at hg'))) | (refine IfG.n (fun hg => ?_) (fun hg => ?_) <;> (try (have hg' := hg; simp at hg'))) | (refine OutOK.gateP (fun hg => ?_) (fun hg => ?_) <;> (try (have hg' := hg; simp at hg'))) | (refine OutOK.gateN (fun hg => ?_) (fun hg => ?_) <;> (try (have hg' := hg; simp at hg'))) | (refine IfG.g (fun hg => ?_) (fun hg => ?_) <;> (try (have hg' := hg; simp at hg'))) | (refine OutOK.gate (fun hg => ?_) (fun hg => ?_) <;> (try (have hg' := hg; simp at hg'))) | (refine OutOK.callF [] (by simp [*]; rfl) (by simp [*]; rfl) (by simp [*]; rfl) hb87 (by apply cp <;> first | assumption | exact Hd.out (by assumption) | ((try (clear e0)); (try (clear e1)); (try (clear e2)); (try (clear e3)); (try (clear e4)); (try (clear e5)); (try (clear e6)); (try (clear e7)); (try (clear e8)); (try (clear e9)); (try (clear e10)); (try (clear e11)); omega)) ⟨by simp [*], by simp [*], by simp [*], by simp [*], by simp [*]⟩ (by simp [*]) (by simp [*]; rfl) ?_) | refine OutOK.run (by simp [*]; rfl) ?_ | refine AW.ret ?_ | refine AW.skip ?_ | refine AW.exit ?_ | refine fin_r ?_ | refine fin_n ?_ | refine AW.block ?_ | refine blockQ_n ?_ | refine blockQ_r ?_ | refine blockQ_e ?_ | refine blockQ_o rfl ?_)
          exact ⟨k + 1, hkl, ⟨by simp [this], by simp, by simp⟩, by ((try (clear e0)); (try (clear e1)); (try (clear e2)); (try (clear e3)); (try (clear e4)); (try (clear e5)); (try (clear e6)); (try (clear e7)); (try (clear e8)); (try (clear e9)); (try (clear e10)); (try (clear e11)); omega)⟩
      · have := tn.out (by simp [curK, hc])
        repeat' (first | with_reducible refine OutOK.done ?_ | refine thenQ_n ?_ | refine thenQ_r ?_ | refine thenQ_e ?_ | refine AW.seq ?_ | refine AW.dreg tok mixed [15]  [(0, false), (1, false), (2, false), (3, false), (5, false), (4, false), (6, false), (7, false), (8, false), (9, false), (10, false), (12, false), (13, false), (14, false), (11, false), (15, true), (16, false), (17, false)] (by decide +kernel) rfl (by simp [*]; rfl) ?_ | refine AW.reg tok (by simp [*]; rfl) ?_ | refine AW.ifB (by simp [*]; rfl) ?_ | refine IfG.t ?_ | refine IfG.f ?_ | (refine IfG.p (fun hg => ?_) (fun hg => ?_) <;> (try (have hg' := hg; simp at hg'))) | (refine IfG.n (fun hg => ?_) (fun hg => ?_) <;> (try (have hg' := hg; simp at hg'))) | (refine OutOK.gateP (fun hg => ?_) (fun hg => ?_) <;> (try (have hg' := hg; simp at hg'))) | (refine OutOK.gateN (fun hg => ?_) (fun hg => ?_) <;> (try (have hg' := hg; simp at hg'))) | (refine IfG.g (fun hg => ?_) (fun hg => ?_) <;> (try (have hg' := hg; simp at hg'))) | (refine OutOK.gate (fun hg => ?_) (fun hg => ?_) <;> (try (have hg' := hg; simp at hg'))) | (refine OutOK.callF [] (by simp [*]; rfl) (by simp [*]; rfl) (by simp [*]; rfl) hb87 (by apply cp <;> first | assumption | exact Hd.out (by assumption) | ((try (clear e0)); (try (clear e1)); (try (clear e2)); (try (clear e3)); (try (clear e4)); (try (clear e5)); (try (clear e6)); (try (clear e7)); (try (clear e8)); (try (clear e9)); (try (clear e10)); (try (clear e11)); omega)) ⟨by simp [*], by simp [*], by simp [*], by simp [*], by simp [*]⟩ (by simp [*]) (by simp [*]; rfl) ?_) | refine OutOK.run (by simp [*]; rfl) ?_ | refine AW.ret ?_ | refine AW.skip ?_ | refine AW.exit ?_ | refine fin_r ?_ | refine fin_n ?_ | refine AW.block ?_ | refine blockQ_n ?_ | refine blockQ_r ?_ | refine blockQ_e ?_ | refine blockQ_o rfl ?_)
        exact ⟨k + 1, hkl, ⟨by simp [this], by simp, by simp⟩, by ((try (clear e0)); (try (clear e1)); (try (clear e2)); (try (clear e3)); (try (clear e4)); (try (clear e5)); (try (clear e6)); (try (clear e7)); (try (clear e8)); (try (clear e9)); (try (clear e10)); (try (clear e11)); omega)⟩
    · have hkk : k = l.length := by omega
      have hT : anyK l item l[i] k = l.any (curK item l[i]) := by rw [hkk]; exact anyK_all
      rw [hT]
      have hkn : ¬ k < l.length := by omega
      clear hT hkk
      obtain ⟨cc, hcc⟩ : ∃ cc, (c0 && !(l.any (curK item l[i]))) = cc := ⟨_, rfl⟩
      rw [hcc]
      have hcc' : Hd _ := hcc
      clear hcc
      have hic2 : Hd (ic = cc) := by rw [Hd, hic.out, hc0'.out, hcc'.out]
      cases cc with
      | true =>
        have := hy.out hic2.out
        repeat' (first | with_reducible refine OutOK.done ?_ | refine thenQ_n ?_ | refine thenQ_r ?_ | refine thenQ_e ?_ | refine AW.seq ?_ | refine AW.dreg tok mixed [15]  [(0, false), (1, false), (2, false), (3, false), (5, false), (4, false), (6, false), (7, false), (8, false), (9, false), (10, false), (12, false), (13, false), (14, false), (11, false), (15, true), (16, false), (17, false)] (by decide +kernel) rfl (by simp [*]; rfl) ?_ | refine AW.reg tok (by simp [*]; rfl) ?_ | refine AW.ifB (by simp [*]; rfl) ?_ | refine IfG.t ?_ | refine IfG.f ?_ | (refine IfG.p (fun hg => ?_) (fun hg => ?_) <;> (try (have hg' := hg; simp at hg'))) | (refine IfG.n (fun hg => ?_) (fun hg => ?_) <;> (try (have hg' := hg; simp at hg'))) | (refine OutOK.gateP (fun hg => ?_) (fun hg => ?_) <;> (try (have hg' := hg; simp at hg'))) | (refine OutOK.gateN (fun hg => ?_) (fun hg => ?_) <;> (try (have hg' := hg; simp at hg'))) | (refine IfG.g (fun hg => ?_) (fun hg => ?_) <;> (try (have hg' := hg; simp at hg'))) | (refine OutOK.gate (fun hg => ?_) (fun hg => ?_) <;> (try (have hg' := hg; simp at hg'))) | refine OutOK.run (by simp [*]; rfl) ?_ | refine AW.ret ?_ | refine AW.skip ?_ | refine AW.exit ?_ | refine fin_r ?_ | refine fin_n ?_ | refine AW.block ?_ | refine blockQ_n ?_ | refine blockQ_r ?_ | refine blockQ_e ?_ | refine blockQ_o rfl ?_)
        exact ⟨i + 1, hl, ⟨[(51000, 9000)], by simp, by simp, by simp [hsn'.out, this], by simp⟩, by ((try (clear e0)); (try (clear e1)); (try (clear e2)); (try (clear e3)); (try (clear e4)); (try (clear e5)); (try (clear e6)); (try (clear e7)); (try (clear e8)); (try (clear e9)); (try (clear e10)); (try (clear e11)); omega)⟩
      | false =>
        have := hno.out hic2.out
        repeat' (first | with_reducible refine OutOK.done ?_ | refine thenQ_n ?_ | refine thenQ_r ?_ | refine thenQ_e ?_ | refine AW.seq ?_ | refine AW.dreg tok mixed [15]  [(0, false), (1, false), (2, false), (3, false), (5, false), (4, false), (6, false), (7, false), (8, false), (9, false), (10, false), (12, false), (13, false), (14, false), (11, false), (15, true), (16, false), (17, false)] (by decide +kernel) rfl (by simp [*]; rfl) ?_ | refine AW.reg tok (by simp [*]; rfl) ?_ | refine AW.ifB (by simp [*]; rfl) ?_ | refine IfG.t ?_ | refine IfG.f ?_ | (refine IfG.p (fun hg => ?_) (fun hg => ?_) <;> (try (have hg' := hg; simp at hg'))) | (refine IfG.n (fun hg => ?_) (fun hg => ?_) <;> (try (have hg' := hg; simp at hg'))) | (refine OutOK.gateP (fun hg => ?_) (fun hg => ?_) <;> (try (have hg' := hg; simp at hg'))) | (refine OutOK.gateN (fun hg => ?_) (fun hg => ?_) <;> (try (have hg' := hg; simp at hg'))) | (refine IfG.g (fun hg => ?_) (fun hg => ?_) <;> (try (have hg' := hg; simp at hg'))) | (refine OutOK.gate (fun hg => ?_) (fun hg => ?_) <;> (try (have hg' := hg; simp at hg'))) | refine OutOK.run (by simp [*]; rfl) ?_ | refine AW.ret ?_ | refine AW.skip ?_ | refine AW.exit ?_ | refine fin_r ?_ | refine fin_n ?_ | refine AW.block ?_ | refine blockQ_n ?_ | refine blockQ_r ?_ | refine blockQ_e ?_ | refine blockQ_o rfl ?_)
        exact ⟨i + 1, hl, ⟨[], by simp, by simp, by simp [hsn'.out, this], by simp⟩, by ((try (clear e0)); (try (clear e1)); (try (clear e2)); (try (clear e3)); (try (clear e4)); (try (clear e5)); (try (clear e6)); (try (clear e7)); (try (clear e8)); (try (clear e9)); (try (clear e10)); (try (clear e11)); omega)⟩
  · have hii : i = l.length := by omega
    subst hii
    repeat' (first | with_reducible refine OutOK.done ?_ | refine thenQ_n ?_ | refine thenQ_r ?_ | refine thenQ_e ?_ | refine AW.seq ?_ | refine AW.dreg tok mixed [15]  [(0, false), (1, false), (2, false), (3, false), (5, false), (4, false), (6, false), (7, false), (8, false), (9, false), (10, false), (12, false), (13, false), (14, false), (11, false), (15, true), (16, false), (17, false)] (by decide +kernel) rfl (by simp [*]; rfl) ?_ | refine AW.reg tok (by simp [*]; rfl) ?_ | refine AW.ifB (by simp [*]; rfl) ?_ | refine IfG.t ?_ | refine IfG.f ?_ | (refine IfG.p (fun hg => ?_) (fun hg => ?_) <;> (try (have hg' := hg; simp at hg'))) | (refine IfG.n (fun hg => ?_) (fun hg => ?_) <;> (try (have hg' := hg; simp at hg'))) | (refine OutOK.gateP (fun hg => ?_) (fun hg => ?_) <;> (try (have hg' := hg; simp at hg'))) | (refine OutOK.gateN (fun hg => ?_) (fun hg => ?_) <;> (try (have hg' := hg; simp at hg'))) | (refine IfG.g (fun hg => ?_) (fun hg => ?_) <;> (try (have hg' := hg; simp at hg'))) | (refine OutOK.gate (fun hg => ?_) (fun hg => ?_) <;> (try (have hg' := hg; simp at hg'))) | refine OutOK.run (by simp [*]; rfl) ?_ | refine AW.ret ?_ | refine AW.skip ?_ | refine AW.exit ?_ | refine fin_r ?_ | refine fin_n ?_ | refine AW.block ?_ | refine blockQ_n ?_ | refine blockQ_r ?_ | refine blockQ_e ?_ | refine blockQ_o rfl ?_)
    simp [Try.f81]
theorem hist_ck {l : List Edt} {n : Int} (h : hist l n = true) : ∀ e ∈ l, e.ck.length ≤ 3 := by
  have hh := hist_iff'.1 h
  intro e he
  obtain ⟨i, hi, rfl⟩ := List.getElem_of_mem he
  have := (hh.fl i hi).1
  have := (inR_iff.1 hh.nn).2
  omega
end Go.Proofs.Ytbofobjofngoeaa.EngS


set_option linter.unusedSimpArgs false
set_option linter.unusedVariables false
set_option maxHeartbeats 4000000
set_option maxRecDepth 100000
namespace Go.Proofs.Ytbofobjofngoeaa.EngS
open Go Go.Proofs Go.Eng Go.RowKit
end Go.Proofs.Ytbofobjofngoeaa.EngS


set_option linter.unusedSimpArgs false
set_option linter.unusedVariables false
set_option maxHeartbeats 4000000
set_option maxRecDepth 10000
namespace Go.Proofs.Ytbofobjofngoeaa.EngS
open Go Go.Proofs Go.Eng Go.RowKit
def bys (xs : List Int) : List PV := xs.map fun x => .sc (.int .u8 x)
@[simp] theorem bys_len (xs) : (bys xs).length = xs.length := by simp [bys]
@[simp] theorem bys_get (xs : List Int) (i : Nat) : (bys xs)[i]? = (xs[i]?).map fun x => .sc (.int .u8 x) := by simp [bys]
@[simp] theorem bys_at (xs : List Int) (i : Nat) (h : i < (bys xs).length) : (bys xs)[i] = .sc (.int .u8 (xs[i]'(by simpa using h))) := by simp [bys]
@[simp] theorem bys_frz (xs) : PV.frzs (bys xs) = bys xs := by simp [bys]
abbrev curP (code : List Int) (a s : Int) : List PV := [.sl true 1 (bys code), .sc (.int .i64 a), .sc (.int .u64 s)]
def nxB (code : List Int) (a : Int) : Int := if a < (code.length : Int) then wrap64 (code[a.toNat]?.getD 0) else 0
def nxS (code : List Int) (a s : Int) : Int := IntKind.u64.wrap (IntKind.u64.wrap (IntKind.u64.wrap (s * 6364136223846793005) + IntKind.u64.wrap (nxB code a)) + 876876)
def nxV (code : List Int) (a s : Int) : Int := if a + 1 ≤ (code.length : Int) then nxB code a else wrap64 (IntKind.u64.wrap (((((nxS code a s).fdiv (2 ^ min 40 IntKind.u64.bits) % 2 ^ IntKind.u64.bits).toNat &&& 255 % 2 ^ IntKind.u64.bits : Nat)) : Int))
theorem u64_small (n : Nat) (h : n ≤ 255) : wrap64 (IntKind.u64.wrap (n : Int)) = (n : Int) := by
  have : IntKind.u64.wrap (n : Int) = (n : Int) := by
    simp [IntKind.wrap, IntKind.signed, IntKind.bits]
    omega
  rw [this]
  exact w64 (by omega) (by omega)
def BytesOK (code : List Int) : Prop := ∀ x ∈ code, 0 ≤ x ∧ x ≤ 255
theorem nxB_le {code : List Int} (hb : BytesOK code) (a : Int) (h0 : 0 ≤ a) : 0 ≤ nxB code a ∧ nxB code a ≤ 255 := by
  unfold nxB
  split
  · have hl : a.toNat < code.length := by omega
    rw [List.getElem?_eq_getElem hl]
    have := hb code[a.toNat] (List.getElem_mem hl)
    simp only [Option.getD_some]
    rw [w64 (by omega) (by omega)]
    exact this
  · omega
theorem nxV_le {code : List Int} (hb : BytesOK code) (a s : Int) (h0 : 0 ≤ a) : 0 ≤ nxV code a s ∧ nxV code a s ≤ 255 := by
  unfold nxV
  split
  · exact nxB_le hb a h0
  · have h := Nat.and_le_right (n := ((nxS code a s).fdiv (2 ^ min 40 IntKind.u64.bits) % 2 ^ IntKind.u64.bits).toNat) (m := 255 % 2 ^ IntKind.u64.bits)
    have h2 : 255 % 2 ^ IntKind.u64.bits = 255 := by decide
    rw [h2] at h ⊢
    rw [u64_small _ h]
    omega
theorem c_spec_l1Cur_next (code : List Int) (a s : Int) (h0 : 0 ≤ a) (h1 : a ≤ 1000000000000000) (hc : code.length ≤ 9223372036854775807) : ACall Try.prog 137 [.p (curP code a s)] [.p (curP code (a + 1) (nxS code a s))] [int (nxV code a s)] := by
  have e1 : wrap64 (a + 1) = a + 1 := w64 (by omega) (by omega)
  refine ACall.of (N := 62) tok Try.func137 rfl rfl rfl (by simp) ?_
  repeat' (first | with_reducible refine OutOK.done ?_ | refine thenQ_n ?_ | refine thenQ_r ?_ | refine thenQ_e ?_ | refine AW.seq ?_ | refine AW.dreg tok mixed [7, 8]  [(0, false), (1, false), (2, false), (4, false), (5, false), (6, false), (3, false), (7, true), (8, true), (9, false)] (by decide +kernel) rfl (by simp [*]; rfl) ?_ | refine AW.dreg tok mixed [7]  [(0, false), (1, false), (2, false), (4, false), (5, false), (6, false), (3, false), (7, true), (8, false), (9, false), (10, false), (11, false)] (by decide +kernel) rfl (by simp [*]; rfl) ?_ | refine AW.dreg tok mixed [7, 8]  [(0, false), (1, false), (2, false), (4, false), (5, false), (6, false), (3, false), (7, true), (8, true), (9, false)] (by decide +kernel) rfl (by simp [*]; rfl) ?_ | refine AW.reg tok (by simp [*]; rfl) ?_ | refine AW.ifB (by simp [*]; rfl) ?_ | refine IfG.t ?_ | refine IfG.f ?_ | (refine IfG.p (fun hg => ?_) (fun hg => ?_) <;> (try (have hg' := hg; simp at hg'))) | (refine IfG.n (fun hg => ?_) (fun hg => ?_) <;> (try (have hg' := hg; simp at hg'))) | (refine OutOK.gateP (fun hg => ?_) (fun hg => ?_) <;> (try (have hg' := hg; simp at hg'))) | (refine OutOK.gateN (fun hg => ?_) (fun hg => ?_) <;> (try (have hg' := hg; simp at hg'))) | (refine IfG.g (fun hg => ?_) (fun hg => ?_) <;> (try (have hg' := hg; simp at hg'))) | (refine OutOK.gate (fun hg => ?_) (fun hg => ?_) <;> (try (have hg' := hg; simp at hg'))) | refine OutOK.run (by simp [*]; rfl) ?_ | refine AW.ret ?_ | refine AW.skip ?_ | refine AW.exit ?_ | refine fin_r ?_ | refine fin_n ?_ | refine AW.block ?_ | refine blockQ_n ?_ | refine blockQ_r ?_ | refine blockQ_e ?_ | refine blockQ_o rfl ?_)
  all_goals simp [Try.f137, nxV, nxS, nxB, *]
theorem x_spec_l1Cur_next (code : List Int) (a s : Int) (h0 : 0 ≤ a) (h1 : a ≤ 1000000000000) (hc : code.length ≤ 9223372036854775807) (hb : BytesOK code) :
    ACallX Try.prog 137 [.p (curP code a s)] (fun x : Int × Int => 0 ≤ x.2 ∧ x.2 ≤ 255) (fun x => [.p (curP code (a + 1) x.1)]) (fun x => [int x.2]) :=
  ACallX.imp (c_spec_l1Cur_next code a s h0 (by omega) hc).x (fun _ => (nxS code a s, nxV code a s)) (fun _ _ => nxV_le hb a s h0) (fun _ _ => rfl) (fun _ _ => rfl)
theorem tmod_in {v n : Int} (h : 0 ≤ v) (hn : 0 < n) : 0 ≤ Int.tmod v n ∧ Int.tmod v n < n := by
  rw [Int.tmod_eq_emod_of_nonneg h]
  exact ⟨Int.emod_nonneg _ (by omega), Int.emod_lt_of_pos _ hn⟩
theorem x_spec_l1Cur_pick (code : List Int) (a s n : Int) (h0 : 0 ≤ a) (h1 : a ≤ 900000000000) (hc : code.length ≤ 9223372036854775807) (hb : BytesOK code) (hn : 1 < n) (hn' : n ≤ 1000000) :
    ACallX Try.prog 108 [.p (curP code a s), int n] (fun x : Int × Int × Int => a ≤ x.1 ∧ x.1 ≤ a + 2 ∧ 0 ≤ x.2.2 ∧ x.2.2 < n) (fun x => [.p (curP code x.1 x.2.1), .x]) (fun x => [int x.2.2]) := by
  have e1 : ¬ n ≤ 1 := by omega
  have e3 : ¬ n = 0 := by omega
  by_cases e2 : 200 < n
  · refine ACallX.of (N := 20) tok Try.func108 rfl rfl rfl (by simp) ?_
    repeat' (first | with_reducible refine OutOK.done ?_ | refine thenQ_n ?_ | refine thenQ_r ?_ | refine thenQ_e ?_ | refine AW.seq ?_ | refine AW.reg tok (by simp [*]; rfl) ?_ | refine AW.ifB (by simp [*]; rfl) ?_ | refine IfG.t ?_ | refine IfG.f ?_ | (refine IfG.p (fun hg => ?_) (fun hg => ?_) <;> (try (have hg' := hg; simp at hg'))) | (refine IfG.n (fun hg => ?_) (fun hg => ?_) <;> (try (have hg' := hg; simp at hg'))) | (refine OutOK.gateP (fun hg => ?_) (fun hg => ?_) <;> (try (have hg' := hg; simp at hg'))) | (refine OutOK.gateN (fun hg => ?_) (fun hg => ?_) <;> (try (have hg' := hg; simp at hg'))) | (refine IfG.g (fun hg => ?_) (fun hg => ?_) <;> (try (have hg' := hg; simp at hg'))) | (refine OutOK.gate (fun hg => ?_) (fun hg => ?_) <;> (try (have hg' := hg; simp at hg'))) | (refine OutOK.callX [] (by simp [*]; rfl) (by simp [*]; rfl) (by simp [*]; rfl) hb137 (by apply x_spec_l1Cur_next <;> first | assumption | exact Hd.out (by assumption) | ((try (clear e0)); (try (clear e1)); (try (clear e2)); (try (clear e3)); (try (clear e4)); (try (clear e5)); (try (clear e6)); (try (clear e7)); (try (clear e8)); (try (clear e9)); (try (clear e10)); (try (clear e11)); omega)) ⟨by simp [*], by simp [*], by simp [*]⟩ (by simp [*]) (fun x hx => CallX.mk' ⟨by simp [*], by simp [*], by simp [*], by simp [*], by simp [*]⟩ (by simp [*]; rfl) ?_)) | refine OutOK.run (by simp [*]; rfl) ?_ | refine AW.ret ?_ | refine AW.skip ?_ | refine AW.exit ?_ | refine fin_r ?_ | refine fin_n ?_ | refine AW.block ?_ | refine blockQ_n ?_ | refine blockQ_r ?_ | refine blockQ_e ?_ | refine blockQ_o rfl ?_)
    rename_i x1 hx1
    have hv := tmod_in (v := wrap64 (wrap64 (x1.2 * 256) + x.2)) (n := n) (by rw [w64 (x := x1.2 * 256) (by omega) (by omega), w64 (by omega) (by omega)]; omega) (by omega)
    exact ⟨(a + 1 + 1, x.1, Int.tmod (wrap64 (wrap64 (x1.2 * 256) + x.2)) n), ⟨by simp only; omega, by simp only; omega, hv.1, hv.2⟩, by simp [Try.f108]⟩
  · refine ACallX.of (N := 20) tok Try.func108 rfl rfl rfl (by simp) ?_
    repeat' (first | with_reducible refine OutOK.done ?_ | refine thenQ_n ?_ | refine thenQ_r ?_ | refine thenQ_e ?_ | refine AW.seq ?_ | refine AW.reg tok (by simp [*]; rfl) ?_ | refine AW.ifB (by simp [*]; rfl) ?_ | refine IfG.t ?_ | refine IfG.f ?_ | (refine IfG.p (fun hg => ?_) (fun hg => ?_) <;> (try (have hg' := hg; simp at hg'))) | (refine IfG.n (fun hg => ?_) (fun hg => ?_) <;> (try (have hg' := hg; simp at hg'))) | (refine OutOK.gateP (fun hg => ?_) (fun hg => ?_) <;> (try (have hg' := hg; simp at hg'))) | (refine OutOK.gateN (fun hg => ?_) (fun hg => ?_) <;> (try (have hg' := hg; simp at hg'))) | (refine IfG.g (fun hg => ?_) (fun hg => ?_) <;> (try (have hg' := hg; simp at hg'))) | (refine OutOK.gate (fun hg => ?_) (fun hg => ?_) <;> (try (have hg' := hg; simp at hg'))) | (refine OutOK.callX [] (by simp [*]; rfl) (by simp [*]; rfl) (by simp [*]; rfl) hb137 (by apply x_spec_l1Cur_next <;> first | assumption | exact Hd.out (by assumption) | ((try (clear e0)); (try (clear e1)); (try (clear e2)); (try (clear e3)); (try (clear e4)); (try (clear e5)); (try (clear e6)); (try (clear e7)); (try (clear e8)); (try (clear e9)); (try (clear e10)); (try (clear e11)); omega)) ⟨by simp [*], by simp [*], by simp [*]⟩ (by simp [*]) (fun x hx => CallX.mk' ⟨by simp [*], by simp [*], by simp [*], by simp [*], by simp [*]⟩ (by simp [*]; rfl) ?_)) | refine OutOK.run (by simp [*]; rfl) ?_ | refine AW.ret ?_ | refine AW.skip ?_ | refine AW.exit ?_ | refine fin_r ?_ | refine fin_n ?_ | refine AW.block ?_ | refine blockQ_n ?_ | refine blockQ_r ?_ | refine blockQ_e ?_ | refine blockQ_o rfl ?_)
    have hv := tmod_in (v := x.2) (n := n) (by omega) (by omega)
    exact ⟨(a + 1, x.1, Int.tmod x.2 n), ⟨by simp only; omega, by simp only; omega, hv.1, hv.2⟩, by simp [Try.f108]⟩
def strs (xs : List ByteArray) : List PV := xs.map fun x => .sc (.string x)
@[simp] theorem strs_len (xs) : (strs xs).length = xs.length := by simp [strs]
@[simp] theorem strs_get (xs : List ByteArray) (i : Nat) : (strs xs)[i]? = (xs[i]?).map fun x => .sc (.string x) := by simp [strs]
@[simp] theorem strs_at (xs : List ByteArray) (i : Nat) (h : i < (strs xs).length) : (strs xs)[i] = .sc (.string (xs[i]'(by simpa using h))) := by simp [strs]
@[simp] theorem strs_frz (xs) : PV.frzs (strs xs) = strs xs := by simp [strs]
theorem x_spec_l1Cur_of (code : List Int) (a s : Int) (xs : List ByteArray) (q : ByteArray → Prop) (h0 : 0 ≤ a) (h1 : a ≤ 900000000000) (hc : code.length ≤ 9223372036854775807) (hb : BytesOK code) (hn : 1 < xs.length) (hn' : xs.length ≤ 1000000) (hq : ∀ y ∈ xs, q y) :
    ACallX Try.prog 135 [.p (curP code a s), .v (.sl false 1 (strs xs))] (fun x : Int × Int × ByteArray => a ≤ x.1 ∧ x.1 ≤ a + 2 ∧ q x.2.2) (fun x => [.p (curP code x.1 x.2.1), .x]) (fun x => [.v (.sc (.string x.2.2))]) := by
  replace hq : Hd _ := hq
  have hn2 : (1 : Int) < xs.length := by omega
  refine ACallX.of (N := 12) tok Try.func135 rfl rfl rfl (by simp) ?_
  repeat' (first | with_reducible refine OutOK.done ?_ | refine thenQ_n ?_ | refine thenQ_r ?_ | refine thenQ_e ?_ | refine AW.seq ?_ | refine AW.reg tok (by simp [*]; rfl) ?_ | refine AW.ifB (by simp [*]; rfl) ?_ | refine IfG.t ?_ | refine IfG.f ?_ | (refine IfG.p (fun hg => ?_) (fun hg => ?_) <;> (try (have hg' := hg; simp at hg'))) | (refine IfG.n (fun hg => ?_) (fun hg => ?_) <;> (try (have hg' := hg; simp at hg'))) | (refine OutOK.gateP (fun hg => ?_) (fun hg => ?_) <;> (try (have hg' := hg; simp at hg'))) | (refine OutOK.gateN (fun hg => ?_) (fun hg => ?_) <;> (try (have hg' := hg; simp at hg'))) | (refine IfG.g (fun hg => ?_) (fun hg => ?_) <;> (try (have hg' := hg; simp at hg'))) | (refine OutOK.gate (fun hg => ?_) (fun hg => ?_) <;> (try (have hg' := hg; simp at hg'))) | refine OutOK.run (by simp [*]; rfl) ?_ | refine AW.ret ?_ | refine AW.skip ?_ | refine AW.exit ?_ | refine fin_r ?_ | refine fin_n ?_ | refine AW.block ?_ | refine blockQ_n ?_ | refine blockQ_r ?_ | refine blockQ_e ?_ | refine blockQ_o rfl ?_)
  refine OutOK.callX [] (by simp [*]; rfl) (by simp [*]; rfl) (by simp [*]; rfl) hb108 (by apply x_spec_l1Cur_pick <;> first | assumption | exact Hd.out (by assumption) | ((try (clear e0)); (try (clear e1)); (try (clear e2)); (try (clear e3)); (try (clear e4)); (try (clear e5)); (try (clear e6)); (try (clear e7)); (try (clear e8)); (try (clear e9)); (try (clear e10)); (try (clear e11)); omega)) ⟨by simp [*], by simp [*], by simp [*]⟩ (by simp [*]) (fun x hx => ?_)
  have hk : x.2.2.toNat < xs.length := by omega
  refine CallX.mk' ⟨by simp [*], by simp [*], by simp [*], by simp [*], by simp [*]⟩ (by simp [*]; rfl) ?_
  repeat' (first | with_reducible refine OutOK.done ?_ | refine thenQ_n ?_ | refine thenQ_r ?_ | refine thenQ_e ?_ | refine AW.seq ?_ | refine AW.reg tok (by simp [*]; rfl) ?_ | refine AW.ifB (by simp [*]; rfl) ?_ | refine IfG.t ?_ | refine IfG.f ?_ | (refine IfG.p (fun hg => ?_) (fun hg => ?_) <;> (try (have hg' := hg; simp at hg'))) | (refine IfG.n (fun hg => ?_) (fun hg => ?_) <;> (try (have hg' := hg; simp at hg'))) | (refine OutOK.gateP (fun hg => ?_) (fun hg => ?_) <;> (try (have hg' := hg; simp at hg'))) | (refine OutOK.gateN (fun hg => ?_) (fun hg => ?_) <;> (try (have hg' := hg; simp at hg'))) | (refine IfG.g (fun hg => ?_) (fun hg => ?_) <;> (try (have hg' := hg; simp at hg'))) | (refine OutOK.gate (fun hg => ?_) (fun hg => ?_) <;> (try (have hg' := hg; simp at hg'))) | refine OutOK.run (by simp [*]; rfl) ?_ | refine AW.ret ?_ | refine AW.skip ?_ | refine AW.exit ?_ | refine fin_r ?_ | refine fin_n ?_ | refine AW.block ?_ | refine blockQ_n ?_ | refine blockQ_r ?_ | refine blockQ_e ?_ | refine blockQ_o rfl ?_)
  exact ⟨(x.1, x.2.1, xs[x.2.2.toNat]), ⟨hx.1, hx.2.1, hq.out _ (List.getElem_mem hk)⟩, by simp [Try.f135]⟩
end Go.Proofs.Ytbofobjofngoeaa.EngS


set_option linter.unusedSimpArgs false
set_option linter.unusedVariables false
namespace Go.Eng
open Go.RowKit
variable {P : Program} {T : Nat → Option TI} {N : Nat}
def ownR (st : St) (t m : Nat) : Option St :=
  match st.env t with
  | .rn n [] (.sub 0 hi k) => match st.σ n with
    | some (.sv (.sl false k' es)) => if k' = k ∧ m < 100000000 ∧ st.σ m = none then some (((st.move [n]).new m (.sv (.sl false k (es.take hi)))).put (some t) (.rf m [])) else none
    | _ => none
  | _ => none
theorem Rel.ownR {fr a w} (hf : FrOK P N fr) {st st2 : St} {t m : Nat} (h2 : Go.Eng.ownR st t m = some st2) (h : Rel fr st a w) : Rel fr st2 a w := by
  obtain ⟨S, rv, hR⟩ := h
  unfold Go.Eng.ownR at h2
  split at h2
  · rename_i n hi k he
    split at h2
    · rename_i k' es hσ
      split at h2
      · rename_i hk
        cases h2
        obtain ⟨rfl, hn, hm0⟩ := hk
        have hv := hR.env t
        rw [he, VR_rn] at hv
        obtain ⟨u, hu, A, mm, cap, rfl, hmc, _, him, hv⟩ := hv
        rw [VR_rf] at hu
        obtain ⟨r, hr, hat, _⟩ := hu
        rw [hσ] at hr
        cases hr
        simp only [rAt, Option.some.injEq] at hat
        obtain ⟨_, hrv⟩ := hR.rr n _ hσ
        rw [hat, RV_ow] at hrv
        have hnew : RR w fr.X (.sv (.sl false k' (es.take hi))) (a.tmps.getD t undef) (S n) := by
          refine ⟨rfl, ?_⟩
          rw [RV_ow, hv]
          rcases hrv with ⟨h1, h2⟩ | ⟨b, cap', cur, ty, h1, h2, h3, h4, h5, h6⟩
          · cases h1
            left
            have : hi = 0 := by omega
            subst this
            simp
          · cases h1
            right
            have hl : (es.take hi).length = hi := by simp; omega
            refine ⟨b, cap, cur, ty, ?_, by omega, h3, h4, h5, RE_take hi es b 0 _ h6⟩
            rw [hl]
            by_cases hc : cap = 0
            · simp [hc]
            · simp [hc, Addr.add]
        obtain ⟨S', rv', hR', hrv'⟩ := Rel0.consume hf hR (w' := w) (d := m) (ms := [n]) rfl TD.refl rfl (Nat.le_refl _) (fun _ _ _ => rfl) (.inl hm0) (fun q hq => by simp at hq; subst hq; exact ⟨_, hσ⟩) hnew (fun b hb => .inr ⟨n, by simp, hb⟩)
          (by cases e : fr.rv0 m with
              | none => rfl
              | some v => have := hf.names m v e; omega)
        refine ⟨S', rv', { hR' with env := fun t' => ?_ }⟩
        simp only [St.put]
        by_cases ht : t' = t
        · subst ht
          rw [if_pos rfl, VR_rf]
          exact ⟨.sv (.sl false k' (es.take hi)), by simp [St.new], by simp [rAt, hrv'], false, k', es.take hi, rfl⟩
        · rw [if_neg ht]; exact hR'.env t'
      · cases h2
    · cases h2
  · cases h2
theorem AW.ownR {c : Code} {st st2 : St} {Q : Exit → St → Prop} (t m : Nat) (h : Go.Eng.ownR st t m = some st2) (hc : AW P N c st2 Q) : AW P N c st Q := fun fr a w hf hr => hc fr a w hf (Rel.ownR hf h hr)
attribute [simp] ownR
def clrL (T : Nat → Option TI) (e : List (Nat × V)) (r : List (Nat × Root)) (t : Nat) : V → Option St
  | .rn n [] (.sub lo hi k) => match lookR r n with
    | some (.sv (.sl false k' es)) => (T t).bind fun i => match i.kd with
      | .sl e' kk _ => (T e').bind fun ie => if k' = k ∧ kk = k ∧ hi = es.length ∧ lo ≤ hi ∧ (ie.agg = false → k = 1) ∧ 0 < k then
          some (mk (e.map fun q => (q.1, q.2.ren (killIn n) (killIn n))) (ins n (.sv (.sl false k (es.take lo ++ List.replicate (hi - lo) (xxEl ie.agg k)))) r)) else none
      | _ => none
    | _ => none
  | _ => none
theorem mk_clr (e : List (Nat × V)) (r : List (Nat × Root)) (n : Nat) (x : Root) : ({ env := fun t => ((mk e r).env t).ren (killIn n) (killIn n), σ := fun m => if m = n then some x else (mk e r).σ m } : St) = mk (e.map fun q => (q.1, q.2.ren (killIn n) (killIn n))) (ins n x r) := by
  simp only [mk]
  congr
  · funext t; rw [look_map _ rfl]
  · funext t; rw [lookR_ins]
@[simp] theorem clrSt_mk (T : Nat → Option TI) (e r t x) : clrSt T (mk e r) t x = clrL T e r t x := by
  cases x with
  | rn n p s =>
    cases p with
    | cons i p => rfl
    | nil =>
      cases s with
      | known v => rfl
      | sub lo hi k =>
        simp only [clrSt, clrL, mk_clr]
        rfl
  | _ => rfl
attribute [simp] clrL killIn
end Go.Eng

set_option linter.unusedSimpArgs false
set_option linter.unusedVariables false
namespace Go.Eng
open Go.RowKit
variable {P : Program} {T : Nat → Option TI} {N : Nat}
theorem Rel0.takeOutC {N fr S rv st a w} (hf : FrOK P N fr) (h : Rel0 fr S rv st a w) {w' : World} {d n : Nat} {r r' : Root} {p : List Nat} {c c0 : PV} {v : Value} {ms : List Nat} {S1 S2 Sd : Nat → Prop}
    (hσ : st.σ n = some r) (hg : r.node.get p = some c) (hca : c.isAg = false) (hp : p ≠ [])
    (hos : w'.os = w.os) (htape : TD w w') (hout : w'.output = w.output) (hsz : w.heap.size ≤ w'.heap.size) (hall : ∀ b, b < w.heap.size → ¬ S1 b → (∀ n ∈ ms, ¬ S n b) → w'.heap[b]? = w.heap[b]?)
    (hd : st.σ d = none) (hdn : d ≠ n) (hnm : n ∉ ms) (hms : ∀ n ∈ ms, ∃ r, st.σ n = some r) (hsep : Sep (S n) S1 S2)
    (hR : RR w' fr.X (r.put p c0) (rv n) S2)
    (hL : ∀ p' x, rLoc w r (rv n) p' = some x → ¬ Ext p p' → rLoc w' (r.put p c0) (rv n) p' = some x ∧
          (∀ m, r.node.get p' = some m → m.isAg = false → w'.cell? ⟨x.1, x.2, none⟩ = w.cell? ⟨x.1, x.2, none⟩))
    (hr : RR w' fr.X r' v Sd) (hSd : ∀ b, Sd b → (w.heap.size ≤ b ∧ b < w'.heap.size) ∨ S1 b ∨ ∃ n ∈ ms, S n b) (hr0 : fr.rv0 d = none) :
    ∃ S' rv', Rel0 fr S' rv' ((st.upd n (r.put p c0) ms [p]).new d r') a w' ∧ rv' d = v := by
  have hlt : ∀ n r b, st.σ n = some r → S n b → b < w.heap.size := fun n r b hn hb => (h.sout n r b hn hb).1
  refine ⟨fun m => if m = d then Sd else if m = n then S2 else S m, fun m => if m = d then v else rv m, ?_, by simp⟩
  have hset : ∀ p' f k es, r.node.get p' = some (.sl f k es) → ¬ p <+: p' → ∃ es', (r.put p c0).node.get p' = some (.sl f k es') := by
    intro p' f k es hg' hnp
    rw [Root.node_put hp]
    exact PV.get_set_sl p p' r.node c0 f k es hnp hg'
  have hkind := put_kind (r := r) (c := c0) hp
  refine h.change (w' := w') (σ' := fun m => if m = d then some r' else if m = n then some (r.put p c0) else if m ∈ ms then none else st.σ m) (S' := fun m => if m = d then Sd else if m = n then S2 else S m) (rv' := fun m => if m = d then v else rv m) (fun m => m = d ∨ m = n ∨ m ∈ ms)
    hos htape hout hsz ?_ ?_ ?_ ?_ ?_ ?_ ?_ ?_ ?_ (killP n ms [p]) (killQ n ms [p]) ?_ ?_ ?_ ?_
  · intro b hb
    refine hall b (Nat.lt_of_lt_of_le (h.xlt b hb) h.size) (fun hS => (h.sout n r b hσ (hsep.1 b hS)).2.1 hb) (fun m hm hS => ?_)
    obtain ⟨r', hr'⟩ := hms m hm; exact (h.sout m r' b hr' hS).2.1 hb
  · intro m r1 hc hr1 b hb
    simp only [not_or] at hc
    refine hall b (hlt m r1 b hr1 hb) (fun hS => h.sdis m n r1 r b hr1 hσ hc.2.1 hb (hsep.1 b hS)) (fun m' hm' hS => ?_)
    obtain ⟨r', hr'⟩ := hms m' hm'; exact h.sdis m m' r1 r' b hr1 hr' (fun e => hc.2.2 (e ▸ hm')) hb hS
  · intro m hc; simp only [not_or] at hc; simp [hc.1, hc.2.1, hc.2.2]
  · intro m hc; simp only [not_or] at hc; simp [hc.1, hc.2.1]
  · intro m hc; simp only [not_or] at hc; simp [hc.1]
  · intro m r1 hc hr1
    by_cases e : m = d
    · subst e; simp only [if_true, Option.some.injEq] at hr1; subst hr1; simpa using hr
    · by_cases e2 : m = n
      · subst e2; simp only [e, if_false, if_true, Option.some.injEq] at hr1; subst hr1; simpa [e] using hR
      · have := (hc.resolve_left e).resolve_left e2; simp [e, e2, this] at hr1
  · intro m r1 b hc hr1 hb
    by_cases e : m = d
    · subst e
      simp only [if_true] at hb
      rcases hSd b hb with hh | hh | ⟨m', hm', hb⟩
      · exact .inl hh
      · exact .inr ⟨n, r, .inr (.inl rfl), hσ, hsep.1 b hh⟩
      · obtain ⟨r2, hr2⟩ := hms m' hm'; exact .inr ⟨m', r2, .inr (.inr hm'), hr2, hb⟩
    · by_cases e2 : m = n
      · subst e2; simp only [e, if_false, if_true] at hb; exact .inr ⟨m, r, .inr (.inl rfl), hσ, hsep.2.1 b hb⟩
      · have := (hc.resolve_left e).resolve_left e2; simp [e, e2, this] at hr1
  · have mixed : ∀ b, Sd b → S2 b → False := by
      intro b h1 h2
      rcases hSd b h1 with hh | hh | ⟨m', hm', hb⟩
      · have := hlt n r b hσ (hsep.2.1 b h2); omega
      · exact hsep.2.2 b hh h2
      · obtain ⟨r2, hr2⟩ := hms m' hm'; exact h.sdis m' n r2 r b hr2 hσ (fun e => hnm (e ▸ hm')) hb (hsep.2.1 b h2)
    intro m1 m2 r1 r2 b hc1 hc2 h1 h2 hne hb1 hb2
    by_cases e1 : m1 = d
    · subst e1
      by_cases e2 : m2 = m1
      · exact hne e2.symm
      · by_cases e3 : m2 = n
        · subst e3; simp only [e2, if_false, if_true] at hb1 hb2; exact mixed b hb1 hb2
        · have := (hc2.resolve_left e2).resolve_left e3; simp [e2, e3, this] at h2
    · by_cases e1n : m1 = n
      · subst e1n
        by_cases e2 : m2 = d
        · subst e2; simp only [e1, if_false, if_true] at hb1 hb2; exact mixed b hb2 hb1
        · by_cases e3 : m2 = m1
          · exact hne e3.symm
          · have := (hc2.resolve_left e2).resolve_left e3; simp [e2, e3, this] at h2
      · have := (hc1.resolve_left e1).resolve_left e1n; simp [e1, e1n, this] at h1
  · intro m r1 v' hc hr1 hv'
    by_cases e : m = d
    · subst e; rw [hr0] at hv'; cases hv'
    · by_cases e2 : m = n
      · subst e2; simp only [e, if_false]; exact h.rv0 m r v' hσ hv'
      · have := (hc.resolve_left e).resolve_left e2; simp [e, e2, this] at hr1
  · intro m q v' hc hv'
    unfold killP
    by_cases hm : m ∈ ms
    · simp [hm]
    · by_cases e2 : m = n
      · subst e2
        simp only [hm, if_false, true_and]
        split
        · rename_i hq; split at hq
          · cases hq
          · rename_i hne
            simp only [Option.some.injEq, Prod.mk.injEq] at hq
            obtain ⟨rfl, rfl⟩ := hq
            have hnp : ¬ p <+: q := fun hp' => hne (List.any_eq_true.2 ⟨p, by simp, pre_iff.2 hp'⟩)
            rw [VR_rf] at hv' ⊢
            obtain ⟨r1, hr1, hat, f, k, es, hg'⟩ := hv'
            rw [hσ] at hr1; cases hr1
            obtain ⟨es', hg''⟩ := hset q f k es hg' hnp
            refine ⟨r.put p c0, by simp [Ne.symm hdn], ?_, f, k, es', hg''⟩
            simp only [if_neg (Ne.symm hdn)]
            by_cases hp0 : q = [] ∧ ∃ t, r = .sv t
            · obtain ⟨rfl, t, rfl⟩ := hp0
              obtain ⟨t', ht'⟩ := hkind.1 ⟨t, rfl⟩
              rw [ht']
              simpa [rAt] using hat
            · have hl : ∃ x, rLoc w r (rv m) q = some x ∧ w.cell? ⟨x.1, x.2, none⟩ = some v' := by
                cases r with
                | bx cs => simpa [rAt, Option.bind_eq_some_iff] using hat
                | sv t =>
                  cases q with
                  | nil => exact absurd ⟨rfl, t, rfl⟩ hp0
                  | cons i q => simpa [rAt, Option.bind_eq_some_iff] using hat
              obtain ⟨x, hl, hx⟩ := hl
              obtain ⟨h1, h2⟩ := hL q x hl (fun he => hnp he.1)
              rw [rAt_of_rLoc h1, h2 _ hg' rfl]; exact hx
        · trivial
      · have e' := (hc.imp id (fun h => h.resolve_left e2)).resolve_right hm
        subst e'
        rw [VR_rf] at hv'
        obtain ⟨r1, hr1, _⟩ := hv'
        rw [hd] at hr1; cases hr1
  · intro m q o v' hc hv'
    unfold killQ
    by_cases hm : m ∈ ms
    · simp [hm]
    · by_cases e2 : m = n
      · subst e2
        simp only [hm, if_false, true_and]
        split
        · rename_i hq; split at hq
          · cases hq
          · rename_i hne
            simp only [Option.some.injEq, Prod.mk.injEq] at hq
            obtain ⟨rfl, rfl⟩ := hq
            rw [VR_pt] at hv' ⊢
            obtain ⟨r1, b1, o1, hr1, hl, rfl⟩ := hv'
            rw [hσ] at hr1; cases hr1
            refine ⟨r.put p c0, b1, o1, by simp [Ne.symm hdn], ?_, rfl⟩
            simp only [if_neg (Ne.symm hdn)]
            exact (hL q _ hl (fun he => hne (List.any_eq_true.2 ⟨p, by simp, ext_iff.2 he⟩))).1
        · trivial
      · have e' := (hc.imp id (fun h => h.resolve_left e2)).resolve_right hm
        subst e'
        rw [VR_pt] at hv'
        obtain ⟨r1, b, o', hr1, _⟩ := hv'
        rw [hd] at hr1; cases hr1
  · intro m q hc; simp only [not_or] at hc; simp [killP, hc.2.1, hc.2.2]
  · intro m q hc; simp only [not_or] at hc; simp [killQ, hc.2.1, hc.2.2]

theorem AW.split {c : Code} {st : St} {Q : Exit → St → Prop} (k n d : Nat) (p : List Nat) {r : Root} {kk : Nat} {es : List PV} (hσ : st.σ n = some r) (hp : p ≠ []) (hown : r.node.own p = true) (hg : r.node.get p = some (.sl false kk es)) (hd : st.σ d = none) (hdm : d < 100000000)
    (h : ∀ u : Value, u.oneCell' = true → AW P N c (((st.upd n (r.put p (.sc u)) [] [p]).new d (.sv (.sl false kk es))).put (some k) (.rn d [] (.known u))) Q) : AW P N c st Q := by
  intro fr a w hf ⟨S, rv, hR⟩
  obtain ⟨u, S1, S2, hsep, hau, hru, hres⟩ := RR_lend (hR.rr n r hσ) hown hg rfl
  have ho : u.oneCell' = true := (isOwn_one hru rfl).1
  have hdn : d ≠ n := fun e => by rw [e, hσ] at hd; cases hd
  obtain ⟨hR1, hL1⟩ := hres w (.sc u) (fun _ => False) rfl (fun e => absurd e hp) (fun _ _ => rfl) (fun _ _ => rfl) (by rw [RV_sc]) (fun _ h => h.elim)
  obtain ⟨S', rv', hR', hrv⟩ := hR.takeOutC hf (w' := w) (d := d) (r' := .sv (.sl false kk es)) (v := u) (ms := []) (c0 := .sc u) hσ hg rfl hp rfl TD.refl rfl (Nat.le_refl _) (fun _ _ _ _ => rfl) hd hdn (by simp) (by simp) hsep
    (RR_congr (fun _ _ => rfl) (fun _ h => h) (fun _ _ => rfl) (fun y hy => hy.elim False.elim id) hR1) hL1 ⟨rfl, hru⟩ (fun b hb => .inr (.inl hb))
    (by cases e : fr.rv0 d with
        | none => rfl
        | some v => have := hf.names d v e; omega)
  refine h u ho fr a w hf ⟨S', rv', { hR' with env := fun s => ?_ }⟩
  simp only [St.put]
  by_cases hs : s = k
  · subst hs
    rw [if_pos rfl, VR_rn]
    refine ⟨u, ?_, rfl⟩
    rw [VR_rf]
    exact ⟨_, by simp [St.new]; rfl, by simp [rAt, hrv], false, kk, es, rfl⟩
  · rw [if_neg hs]; exact hR'.env s
end Go.Eng


set_option linter.all false
namespace Go.Eng
open Go Go.Proofs Go.RowKit Go.Sort
variable {P : Program}
def strL (xs : List ByteArray) : List PV := xs.map fun x => .sc (.string x)
def bysOf (xs : List ByteArray) : List (List UInt8) := xs.map fun x => x.data.toList
def ofBys (xs : List (List UInt8)) : List ByteArray := xs.map fun x => ⟨x.toArray⟩
theorem RE_strL {w : World} {Z : Nat → Prop} {b : Nat} : ∀ (xs : List ByteArray) (o : Nat) (S : Nat → Prop), RE w Z (strL xs) b o 1 S ↔ ∀ i (h : i < xs.length), w.cell? ⟨b, o + i, none⟩ = some (.string xs[i])
  | [], o, S => by simp [strL, RE_nil]
  | x :: xs, o, S => by
    rw [show strL (x :: xs) = .sc (.string x) :: strL xs from rfl, RE_cons]
    constructor
    · rintro ⟨S1, S2, -, h1, h2⟩
      rw [RN_cell rfl] at h1
      obtain ⟨-, v, hv, hr⟩ := h1
      rw [RV_sc] at hr
      subst hr
      intro i hi
      cases i with
      | zero => exact hv
      | succ i =>
        have := (RE_strL xs (o + 1) S2).1 h2 i (by simpa using hi)
        rw [show o + (i + 1) = o + 1 + i by omega]
        simpa using this
    · intro h
      refine ⟨fun _ => False, S, ⟨fun _ h => h.elim, fun _ h => h, fun _ h => h.elim⟩, ?_, ?_⟩
      · rw [RN_cell rfl]
        exact ⟨rfl, _, h 0 (by simp), by rw [RV_sc]; rfl⟩
      · refine (RE_strL xs (o + 1) S).2 fun i hi => ?_
        have := h (i + 1) (by simpa using hi)
        rw [show o + 1 + i = o + (i + 1) by omega]
        simpa using this
theorem holds_strL {w : World} {b : Nat} {cur : Array Value} {ty : TypeId} (hh : w.heap[b]? = some (.cells cur ty (0, 0))) (xs : List ByteArray) (h : ∀ i (h : i < xs.length), w.cell? ⟨b, 0 + i, none⟩ = some (.string xs[i])) : Holds encStr w b 0 (bysOf xs).toArray := by
  intro j hj
  have hj' : j < xs.length := by simpa [bysOf] using hj
  refine ⟨?_, by simp [World.frozen?, hh]⟩
  rw [h j hj', getElem!_pos (bysOf xs).toArray j hj]
  simp [bysOf, encStr]
theorem put_strs {w : World} {b : Nat} {cur : Array Value} {ty : TypeId} (hh : w.heap[b]? = some (.cells cur ty (0, 0))) (hb : b < w.heap.size) (xs : List ByteArray) (hx : ∀ i (h : i < xs.length), w.cell? ⟨b, 0 + i, none⟩ = some (.string xs[i])) (ys : List (List UInt8)) (hy : ys.length = xs.length) (n : Nat) (os : Array Obj) :
    (grow (putRow encStr (Sort.ahead w n) b 0 ys.toArray) os).os = w.os ∧ TD w (grow (putRow encStr (Sort.ahead w n) b 0 ys.toArray) os) ∧ (grow (putRow encStr (Sort.ahead w n) b 0 ys.toArray) os).output = w.output ∧ w.heap.size ≤ (grow (putRow encStr (Sort.ahead w n) b 0 ys.toArray) os).heap.size ∧
    (∀ q, q < w.heap.size → q ≠ b → (grow (putRow encStr (Sort.ahead w n) b 0 ys.toArray) os).heap[q]? = w.heap[q]?) ∧
    (∃ cur', (grow (putRow encStr (Sort.ahead w n) b 0 ys.toArray) os).heap[b]? = some (.cells cur' ty (0, 0)) ∧ cur'.size = cur.size) ∧
    ∀ i (h : i < (ofBys ys).length), (grow (putRow encStr (Sort.ahead w n) b 0 ys.toArray) os).cell? ⟨b, 0 + i, none⟩ = some (.string (ofBys ys)[i]) := by
  refine ⟨rfl, ⟨rfl, Nat.le_add_right _ _⟩, rfl, by simp, ?_, ?_, ?_⟩
  · intro q hq hne
    simp only [putRow, mapBlock, grow, Sort.ahead]
    rw [Array.getElem?_append_left (by simpa using hq), Array.getElem?_modify, if_neg (Ne.symm hne)]
  · refine ⟨putCells encStr 0 ys.toArray cur, ?_, by simp [putCells]⟩
    simp only [putRow, mapBlock, grow, Sort.ahead]
    rw [Array.getElem?_append_left (by simpa using hb), Array.getElem?_modify, if_pos rfl, hh]
    rfl
  · intro i hi
    have hi' : i < ys.length := by simpa [ofBys] using hi
    have hH := holds_strL hh xs hx
    have hs : (ys.toArray).size = ((bysOf xs).toArray).size := by simp [bysOf, hy]
    have h2 := holds_grow encStr _ os b 0 _ (by simpa using hb) (holds_putRow encStr (Sort.ahead w n) b 0 _ ys.toArray (holds_ahead encStr w n b 0 _ hH) hs)
    have := (h2 i (by simpa using hi')).1
    rw [this, getElem!_pos ys.toArray i (by simpa using hi')]
    simp [ofBys, encStr]
theorem sort_strs (f : Nat) (g : List (List UInt8) → List (List UInt8)) (hg : ∀ zs, (g zs).length = zs.length)
    (hC : ∀ (blk off cap : Nat) (ss : List (List UInt8)) (w : World), Holds encStr w blk off ss.toArray → blk < w.heap.size → ss.length < 4611686018427387904 →
      Calls P f #[.slice (some ⟨blk, off, none⟩) ss.length cap] w fun e w' => e = .returned (.tuple #[]) ∧ ∃ n os, w' = grow (putRow encStr (Sort.ahead w n) blk off (g ss).toArray) os)
    (hN : ∀ (p : Option Addr) (cap : Nat) (w : World), Calls P f #[.slice p 0 cap] w fun e w' => e = .returned (.tuple #[]) ∧ w' = w)
    (xs : List ByteArray) (hsz : xs.length < 4611686018427387904) :
    ACall P f [.v (.sl false 1 (strL xs))] [.v (.sl false 1 (strL (ofBys (g (bysOf xs)))))] [] := by
  intro w Z S vals hgw hd hlt hSZ
  obtain ⟨v1, vs, S1, S2, rfl, sep1, h1, rfl⟩ := hd
  have h0 : DR w Z (.v (.sl false 1 (strL xs))) v1 S1 := h1
  simp only [DR] at h1
  rw [RV_ow] at h1
  have none_case : ∀ (p : Option Addr) (cap : Nat), xs = [] → v1 = .slice p 0 cap → Calls P f [v1].toArray w fun e w' => ∃ rvs S' Sr, e = .returned (resOf rvs) ∧ w'.os = w.os ∧ TD w w' ∧ w'.output = w.output ∧ w.heap.size ≤ w'.heap.size ∧
        (∀ b, b < w.heap.size → ¬ S b → w'.heap[b]? = w.heap[b]?) ∧ (∀ b, S' b ∨ Sr b → S b ∨ (w.heap.size ≤ b ∧ b < w'.heap.size)) ∧ (∀ b, S' b → Sr b → False) ∧
        DRs w' Z [.v (.sl false 1 (strL (ofBys (g (bysOf xs)))))] [v1] S' ∧ DRs w' Z [] rvs Sr := by
    intro p cap hx hv
    subst hx
    have hg0 : g (bysOf []) = [] := List.length_eq_zero_iff.1 (by rw [hg]; rfl)
    rw [hg0]
    rw [hv] at h0 ⊢
    refine (hN p cap w).mono ?_
    rintro e w' ⟨rfl, rfl⟩
    exact ⟨[], S, fun _ => False, rfl, rfl, TD.refl, rfl, Nat.le_refl _, fun _ _ _ => rfl, fun b h => by simpa using Or.inl (h.resolve_right id), fun _ _ h => h, ⟨_, _, S1, S2, rfl, sep1, h0, rfl⟩, rfl⟩
  rcases h1 with ⟨rfl, hl⟩ | ⟨b, cap, cur, ty, rfl, hcap, hb, hheap, hcs, hRE⟩
  · exact none_case none 0 (List.length_eq_zero_iff.1 (by simpa [strL] using hl)) rfl
  by_cases hx : xs = []
  · exact none_case (some ⟨b, 0, none⟩) cap hx (by rw [hx]; rfl)
  clear none_case
  have hbl : b < w.heap.size := hlt b (.inr (sep1.1 b hb))
  have hcell := (RE_strL xs 0 _).1 hRE
  have hlx : (strL xs).length = (bysOf xs).length := by simp [strL, bysOf]
  have key := hC b 0 cap (bysOf xs) w (holds_strL hheap xs hcell) hbl (by simpa [bysOf] using hsz)
  rw [hlx]
  refine Calls.mono key ?_
  rintro e w' ⟨rfl, n, os, rfl⟩
  obtain ⟨p1, p2, p3, p4, p5, ⟨cur', p6, p7⟩, p8⟩ := put_strs hheap hbl xs hcell (g (bysOf xs)) (by rw [hg]; simp [bysOf]) n os
  refine ⟨[], S, fun _ => False, rfl, p1, p2, p3, p4, fun q hq hS => p5 q hq (fun e => hS (e ▸ sep1.1 b hb)), fun q h => .inl (h.resolve_right id), fun _ _ h => h, ⟨_, _, S1, S2, rfl, sep1, ?_, rfl⟩, rfl⟩
  simp only [DR]
  rw [RV_ow]
  have hl2 : (strL (ofBys (g (bysOf xs)))).length = (bysOf xs).length := by simp [strL, ofBys, hg]
  refine .inr ⟨b, cap, cur', ty, by rw [hl2], by rw [hl2, ← hlx]; exact hcap, hb, p6, by rw [p7]; exact hcs, (RE_strL _ 0 _).2 p8⟩
theorem compact_strs (f : Nat) (cp : List (List UInt8) → List (List UInt8))
    (hC : ∀ (blk off cap : Nat) (zs : List (List UInt8)) (w : World), Holds encStr w blk off zs.toArray → zs.length ≤ 9223372036854775807 → zs.length ≤ cap →
      Calls P f #[.slice (some ⟨blk, off, none⟩) zs.length cap] w fun e w' => e = .returned (.slice (some ⟨blk, off, none⟩) (cp zs).length cap) ∧ ∃ q, w' = putRow encStr (Sort.ahead w q) blk off (cp zs ++ List.replicate (zs.length - (cp zs).length) []).toArray)
    (hN : ∀ (a : Option Addr) (cap : Nat) (w : World), Calls P f #[.slice a 0 cap] w fun e w' => e = .returned (.slice a 0 cap) ∧ w' = w)
    (hle : ∀ zs : List (List UInt8), (cp zs).length ≤ zs.length)
    (xs : List ByteArray) (hsz : xs.length < 4611686018427387904) :
    ACall P f [.v (.sl false 1 (strL xs))] [.x] [.v (.sl false 1 (strL (ofBys (cp (bysOf xs)))))] := by
  intro w Z S vals hgw hd hlt hSZ
  obtain ⟨v1, vs, S1, S2, rfl, sep1, h1, rfl⟩ := hd
  have h0 : DR w Z (.v (.sl false 1 (strL xs))) v1 S1 := h1
  simp only [DR] at h1
  rw [RV_ow] at h1
  have none_case : ∀ (p : Option Addr) (cap : Nat), xs = [] → v1 = .slice p 0 cap → Calls P f [v1].toArray w fun e w' => ∃ rvs S' Sr, e = .returned (resOf rvs) ∧ w'.os = w.os ∧ TD w w' ∧ w'.output = w.output ∧ w.heap.size ≤ w'.heap.size ∧
        (∀ b, b < w.heap.size → ¬ S b → w'.heap[b]? = w.heap[b]?) ∧ (∀ b, S' b ∨ Sr b → S b ∨ (w.heap.size ≤ b ∧ b < w'.heap.size)) ∧ (∀ b, S' b → Sr b → False) ∧
        DRs w' Z [.x] [v1] S' ∧ DRs w' Z [.v (.sl false 1 (strL (ofBys (cp (bysOf xs)))))] rvs Sr := by
    intro p cap hx hv
    subst hx
    have hg0 : cp (bysOf []) = [] := List.length_eq_zero_iff.1 (Nat.le_zero.1 (hle []))
    rw [hg0]
    rw [hv] at h0 ⊢
    refine (hN p cap w).mono ?_
    rintro e w' ⟨rfl, rfl⟩
    refine ⟨[.slice p 0 cap], fun _ => False, S, rfl, rfl, TD.refl, rfl, Nat.le_refl _, fun _ _ _ => rfl, fun b h => by simpa using Or.inl (h.resolve_left id), fun _ h _ => h, ⟨_, _, fun _ => False, fun _ => False, rfl, ⟨fun _ h => h, fun _ h => h, fun _ h => h.elim⟩, trivial, rfl⟩, _, _, S1, S2, rfl, sep1, h0, rfl⟩
  rcases h1 with ⟨rfl, hl⟩ | ⟨b, cap, cur, ty, rfl, hcap, hb, hheap, hcs, hRE⟩
  · exact none_case none 0 (List.length_eq_zero_iff.1 (by simpa [strL] using hl)) rfl
  by_cases hx : xs = []
  · exact none_case (some ⟨b, 0, none⟩) cap hx (by rw [hx]; rfl)
  clear none_case
  have hbl : b < w.heap.size := hlt b (.inr (sep1.1 b hb))
  have hcell := (RE_strL xs 0 _).1 hRE
  have hlx : (strL xs).length = (bysOf xs).length := by simp [strL, bysOf]
  have hbx : (bysOf xs).length = xs.length := by simp [bysOf]
  have key := hC b 0 cap (bysOf xs) w (holds_strL hheap xs hcell) (by omega) (by omega)
  have hle2 := hle (bysOf xs)
  rw [hlx]
  refine Calls.mono key ?_
  rintro e w' ⟨rfl, n, rfl⟩
  obtain ⟨p1, p2, p3, p4, p5, ⟨cur', p6, p7⟩, p8⟩ := put_strs hheap hbl xs hcell (cp (bysOf xs) ++ List.replicate ((bysOf xs).length - (cp (bysOf xs)).length) []) (by simp; omega) n #[]
  rw [grow_empty] at p1 p2 p3 p4 p5 p6 p8
  refine ⟨[_], fun _ => False, S, rfl, p1, p2, p3, p4, fun q hq hS => p5 q hq (fun e => hS (e ▸ sep1.1 b hb)), fun q h => .inl (h.resolve_left id), fun _ h _ => h, ⟨_, _, fun _ => False, fun _ => False, rfl, ⟨fun _ h => h, fun _ h => h, fun _ h => h.elim⟩, trivial, rfl⟩, _, _, S1, S2, rfl, sep1, ?_, rfl⟩
  simp only [DR]
  rw [RV_ow]
  have hl2 : (strL (ofBys (cp (bysOf xs)))).length = (cp (bysOf xs)).length := by simp [strL, ofBys]
  refine .inr ⟨b, cap, cur', ty, by rw [hl2], by omega, hb, p6, by rw [p7]; exact hcs, (RE_strL _ 0 _).2 fun i hi => ?_⟩
  have hi2 : i < (cp (bysOf xs)).length := by simpa [ofBys] using hi
  have := p8 i (by simp [ofBys]; omega)
  rw [this]
  have h9 : i < (List.map (fun x : List UInt8 => (⟨x.toArray⟩ : ByteArray)) (cp (bysOf xs))).length := by simpa using hi2
  simp [ofBys]
  rw [List.getElem_append_left h9]
  simp
end Go.Eng

set_option linter.all false
namespace Go.Eng
open Go Go.Proofs Go.RowKit Go.Sort
def SSk (a : List (List UInt8)) : Prop := a.Pairwise fun x y => x < y
theorem SSk_uniq {a b : List (List UInt8)} (ha : SSk a) (hb : SSk b) (h : ∀ x, x ∈ a ↔ x ∈ b) : a = b := by
  have nd : ∀ {c : List (List UInt8)}, SSk c → c.Nodup := fun hc => List.Pairwise.imp (fun {x y} (h : x < y) (e : x = y) => List.lt_irrefl y (e ▸ h)) hc
  refine List.Perm.eq_of_pairwise (le := fun x y => x < y) (fun x y _ _ h1 h2 => ?_) ha hb ((List.perm_ext_iff_of_nodup (nd ha) (nd hb)).2 h)
  exact absurd (List.lt_trans h1 h2) (List.lt_irrefl _)
theorem klt_total {a b : List UInt8} (h : ¬ a < b) (g : ¬ b < a) : a = b := List.le_antisymm (List.not_lt.1 g) (List.not_lt.1 h)
def posK (out : List (List UInt8)) (x : List UInt8) : Nat := (out.takeWhile fun y => decide (y < x)).length
def insK (out : List (List UInt8)) (x : List UInt8) : List (List UInt8) := if out[posK out x]? = some x then out else out.take (posK out x) ++ x :: out.drop (posK out x)
theorem posK_le (out : List (List UInt8)) (x : List UInt8) : posK out x ≤ out.length := (List.takeWhile_prefix _).length_le
theorem posK_take (out : List (List UInt8)) (x : List UInt8) : out.take (posK out x) = out.takeWhile fun y => decide (y < x) := by
  have := List.takeWhile_prefix (p := fun y => decide (y < x)) (l := out)
  exact (List.prefix_iff_eq_take.1 this).symm
theorem posK_drop (out : List (List UInt8)) (x : List UInt8) : out.drop (posK out x) = out.dropWhile fun y => decide (y < x) := by
  have h1 := List.take_append_drop (posK out x) out
  have h2 := List.takeWhile_append_dropWhile (p := fun y => decide (y < x)) (l := out)
  rw [posK_take] at h1
  exact List.append_cancel_left (h1.trans h2.symm)
theorem posK_low {out : List (List UInt8)} {x : List UInt8} {j : Nat} (h : j < posK out x) (hj : j < out.length) : out[j] < x := by
  have h1 : out[j] ∈ out.take (posK out x) := by
    rw [List.mem_take_iff_getElem]
    exact ⟨j, by omega, rfl⟩
  rw [posK_take] at h1
  have := List.all_takeWhile (p := fun y => decide (y < x)) (l := out)
  rw [List.all_eq_true] at this
  simpa using this _ h1
theorem insK_ok {out : List (List UInt8)} (h : SSk out) (x : List UInt8) : SSk (insK out x) ∧ ∀ y, y ∈ insK out x ↔ y = x ∨ y ∈ out := by
  unfold insK
  split
  · rename_i hx
    exact ⟨h, fun y => ⟨.inr, fun hy => hy.elim (fun e => e ▸ List.mem_of_getElem? hx) id⟩⟩
  · rename_i hx
    refine ⟨?_, fun y => ?_⟩
    · unfold SSk
      rw [List.pairwise_append]
      refine ⟨h.sublist (List.take_sublist _ _), ?_, ?_⟩
      · rw [List.pairwise_cons]
        refine ⟨fun y hy => ?_, h.sublist (List.drop_sublist _ _)⟩
        have hp : posK out x < out.length := by
          rcases Nat.lt_or_ge (posK out x) out.length with h | h
          · exact h
          · rw [List.drop_eq_nil_of_le h] at hy; simp at hy
        have hn : ¬ out[posK out x] < x := by
          intro h1
          have h2 : (out.drop (posK out x)).head? = some out[posK out x] := by rw [List.head?_drop, List.getElem?_eq_getElem hp]
          rw [posK_drop] at h2
          have h3 := List.head?_dropWhile_not (fun y => decide (y < x)) out
          rw [h2] at h3
          simp at h3
          exact absurd h1 (by simpa using h3)
        have hne : out[posK out x] ≠ x := fun e => hx (by rw [List.getElem?_eq_getElem hp, e])
        have hlt : x < out[posK out x] := by
          rcases Classical.em (x < out[posK out x]) with h | h
          · exact h
          · exact absurd (klt_total hn h) hne
        rw [List.drop_eq_getElem_cons hp, List.mem_cons] at hy
        rcases hy with rfl | hy
        · exact hlt
        · have h4 : SSk (out.drop (posK out x)) := h.sublist (List.drop_sublist _ _)
          rw [List.drop_eq_getElem_cons hp] at h4
          exact List.lt_trans hlt ((List.pairwise_cons.1 h4).1 y hy)
      · intro y hy z hz
        rw [List.mem_take_iff_getElem] at hy
        obtain ⟨j, hj, rfl⟩ := hy
        have hyx : out[j] < x := posK_low (by omega) (by omega)
        rw [List.mem_cons] at hz
        rcases hz with rfl | hz
        · exact hyx
        · have h5 : (out.take (posK out x) ++ out.drop (posK out x)).Pairwise fun x y => x < y := by rw [List.take_append_drop]; exact h
          exact (List.pairwise_append.1 h5).2.2 _ (by rw [List.mem_take_iff_getElem]; exact ⟨j, hj, rfl⟩) _ hz
    · rw [List.mem_append, List.mem_cons]
      constructor
      · rintro (h1 | h1 | h1)
        · exact .inr (List.mem_of_mem_take h1)
        · exact .inl h1
        · exact .inr (List.mem_of_mem_drop h1)
      · rintro (h1 | h1)
        · exact .inr (.inl h1)
        · rw [← List.take_append_drop (posK out x) out, List.mem_append] at h1
          exact h1.elim .inl fun h => .inr (.inr h)
theorem compact_ok {zs : List (List UInt8)} (h : zs.Pairwise fun x y => ¬ y < x) : SSk (Lib.compact zs) ∧ ∀ y, y ∈ Lib.compact zs ↔ y ∈ zs := by
  have key : ∀ m, m ≤ zs.length → SSk (Lib.compactUpTo zs.toArray m) ∧ (∀ y, y ∈ Lib.compactUpTo zs.toArray m ↔ y ∈ zs.take m) ∧ ∀ (h : 0 < m) (hm : m - 1 < zs.length), zs[m - 1] ∈ Lib.compactUpTo zs.toArray m ∧ ∀ y ∈ Lib.compactUpTo zs.toArray m, ¬ zs[m - 1] < y := by
    intro m
    induction m with
    | zero => intro _; exact ⟨by simp [Lib.compactUpTo, SSk], by simp [Lib.compactUpTo], fun h => absurd h (by omega)⟩
    | succ m ih =>
      intro hm
      obtain ⟨i1, i2, i3⟩ := ih (by omega)
      have hml : m < zs.length := by omega
      have hget : zs.toArray[m]! = zs[m] := by rw [getElem!_pos zs.toArray m (by simpa using hml)]; simp
      have hord : ∀ j (hj : j < zs.length), j < m → ¬ zs[m] < zs[j] := fun j hj hjm => List.pairwise_iff_getElem.1 h j m hj hml hjm
      rw [Lib.compactUpTo_succ, hget]
      have hmem : ∀ y, y ∈ zs.take (m + 1) ↔ y ∈ zs.take m ∨ y = zs[m] := by
        intro y
        rw [List.take_add_one, List.getElem?_eq_getElem hml, Option.toList_some, List.mem_append, List.mem_singleton]
      have hall : ∀ y ∈ zs.take m, ¬ zs[m] < y := by
        intro y hy
        rw [List.mem_take_iff_getElem] at hy
        obtain ⟨j, hj, rfl⟩ := hy
        exact hord j (by omega) (by omega)
      rcases Nat.eq_zero_or_pos m with h0 | h0
      · subst h0
        have hk : Lib.keeps zs.toArray 0 = true := by simp [Lib.keeps]
        rw [if_pos hk]
        have hc : Lib.compactUpTo zs.toArray 0 = [] := by simp [Lib.compactUpTo]
        rw [hc]
        refine ⟨by simp [SSk], fun y => by rw [hmem]; simp, fun _ _ => ⟨by simp, fun y hy => ?_⟩⟩
        simp at hy
        subst hy
        exact List.lt_irrefl _
      · obtain ⟨j1, j2⟩ := i3 h0 (by omega)
        have hget1 : zs.toArray[m - 1]! = zs[m - 1] := by rw [getElem!_pos zs.toArray (m - 1) (by simp; omega)]; simp
        by_cases he : zs[m] = zs[m - 1]
        · have hk : Lib.keeps zs.toArray m = false := Lib.keeps_neg h0 (by rw [hget, hget1, he])
          rw [hk]
          simp only [Bool.false_eq_true, if_false, List.append_nil]
          refine ⟨i1, fun y => by rw [i2, hmem]; exact ⟨.inl, fun h => h.elim id fun e => by rw [e, he]; exact (i2 _).1 j1⟩, fun _ hm2 => ?_⟩
          have hz : zs[m + 1 - 1] = zs[m - 1] := by rw [← he]; congr 1
          rw [hz]
          exact ⟨j1, j2⟩
        · have hk : Lib.keeps zs.toArray m = true := Lib.keeps_pos (by rw [hget, hget1]; exact he)
          rw [hk]
          simp only [if_true]
          have hlt : zs[m - 1] < zs[m] := by
            rcases Classical.em (zs[m - 1] < zs[m]) with h | h
            · exact h
            · exact absurd (klt_total (hord (m - 1) (by omega) (by omega)) h) he
          refine ⟨?_, fun y => by rw [List.mem_append, i2, hmem]; simp, fun _ hm2 => ⟨by simp, fun y hy => ?_⟩⟩
          · unfold SSk
            rw [List.pairwise_append]
            refine ⟨i1, by simp, fun y hy z hz => ?_⟩
            simp at hz
            subst hz
            have h1 := j2 y hy
            rcases Classical.em (y < zs[m - 1]) with h | h
            · exact List.lt_trans h hlt
            · rw [klt_total h h1]; exact hlt
          · rw [List.mem_append] at hy
            rcases hy with hy | hy
            · exact hall y ((i2 y).1 hy)
            · simp at hy
              subst hy
              exact List.lt_irrefl _
  obtain ⟨k1, k2, -⟩ := key zs.length (Nat.le_refl _)
  have hc : Lib.compact zs = Lib.compactUpTo zs.toArray zs.length := rfl
  rw [hc]
  exact ⟨k1, fun y => by rw [k2, List.take_length]⟩
theorem compact_le (zs : List (List UInt8)) : (Lib.compact zs).length ≤ zs.length := by
  have hc : Lib.compact zs = ((List.range zs.length).filter (Lib.keeps zs.toArray)).map (zs.toArray[·]!) := rfl
  rw [hc, List.length_map]
  exact Nat.le_trans (List.length_filter_le _ _) (by simp)
def srtK (zs : List (List UInt8)) : List (List UInt8) := zs.mergeSort fun x y => decide (x ≤ y)
theorem srtK_len (zs : List (List UInt8)) : (srtK zs).length = zs.length := List.length_mergeSort ..
theorem srtK_ok (zs : List (List UInt8)) : ((srtK zs).Pairwise fun x y => ¬ y < x) ∧ ∀ y, y ∈ srtK zs ↔ y ∈ zs := by
  refine ⟨?_, fun y => (List.mergeSort_perm zs _).mem_iff⟩
  refine (List.pairwise_mergeSort (le := fun x y : List UInt8 => decide (x ≤ y)) (fun a b c h1 h2 => ?_) (fun a b => ?_) zs).imp fun h => ?_
  · simp only [decide_eq_true_eq] at *; exact List.le_trans h1 h2
  · simp only [Bool.or_eq_true, decide_eq_true_eq]; exact List.le_total a b
  · simpa using h
end Go.Eng

set_option linter.unusedSimpArgs false
set_option linter.unusedVariables false
set_option maxHeartbeats 4000000
set_option maxRecDepth 100000
namespace Go.Proofs.Ytbofobjofngoeaa.EngS
open Go Go.Proofs Go.Eng Go.RowKit
def cnfB (l : List Edt) (e : Edt) : Bool := decide (1 < (curL l e.it l.length).length)
def spO (l : List Edt) : Nat → List (List UInt8)
  | 0 => []
  | i + 1 => if cnfB l (l[i]?.getD default) = true then insK (spO l i) (l[i]?.getD default).it.toList else spO l i
theorem spO_ok (l : List Edt) : ∀ i, i ≤ l.length → SSk (spO l i) ∧ ∀ y, y ∈ spO l i ↔ ∃ j, ∃ h : j < l.length, j < i ∧ cnfB l l[j] = true ∧ l[j].it.toList = y
  | 0, _ => ⟨by simp [spO, SSk], fun y => by simp [spO]⟩
  | i + 1, hi => by
    obtain ⟨h1, h2⟩ := spO_ok l i (by omega)
    have hil : i < l.length := by omega
    rw [spO, List.getElem?_eq_getElem hil, Option.getD_some]
    split
    · rename_i hc
      obtain ⟨g1, g2⟩ := insK_ok h1 l[i].it.toList
      refine ⟨g1, fun y => ?_⟩
      rw [g2, h2]
      constructor
      · rintro (rfl | ⟨j, hj, hji, h3⟩)
        · exact ⟨i, hil, by omega, hc, rfl⟩
        · exact ⟨j, hj, by omega, h3⟩
      · rintro ⟨j, hj, hji, h3, h4⟩
        rcases Nat.lt_or_ge j i with h | h
        · exact .inr ⟨j, hj, h, h3, h4⟩
        · have : j = i := by omega
          subst this
          exact .inl h4.symm
    · rename_i hc
      refine ⟨h1, fun y => ?_⟩
      rw [h2]
      constructor
      · rintro ⟨j, hj, hji, h3⟩; exact ⟨j, hj, by omega, h3⟩
      · rintro ⟨j, hj, hji, h3, h4⟩
        rcases Nat.lt_or_ge j i with h | h
        · exact ⟨j, hj, h, h3, h4⟩
        · have : j = i := by omega
          subst this
          exact absurd h3 hc
theorem bys_ofBys (k : List (List UInt8)) : bysOf (ofBys k) = k := by
  simp only [bysOf, ofBys, List.map_map]
  conv => rhs; rw [← List.map_id k]
  refine List.map_congr_left fun x _ => ?_
  simp
theorem spO_len (l : List Edt) : ∀ i, (spO l i).length ≤ i
  | 0 => by simp [spO]
  | i + 1 => by
    have := spO_len l i
    rw [spO]
    split
    · unfold insK
      split
      · omega
      · simp; omega
    · omega
def cnI (l : List Edt) (i : Nat) : List ByteArray := ((l.take i).filter (cnfB l)).map Edt.it
theorem cn_same (l : List Edt) : Lib.compact (srtK (bysOf (cnI l l.length))) = spO l l.length := by
  obtain ⟨h1, h2⟩ := spO_ok l l.length (Nat.le_refl _)
  obtain ⟨g1, g2⟩ := srtK_ok (bysOf (cnI l l.length))
  obtain ⟨k1, k2⟩ := compact_ok g1
  refine SSk_uniq k1 h1 fun y => ?_
  rw [k2, g2, h2]
  simp only [bysOf, cnI, List.take_length, List.mem_map, List.mem_filter]
  constructor
  · rintro ⟨x, ⟨e, ⟨he, hc⟩, rfl⟩, rfl⟩
    obtain ⟨j, hj, rfl⟩ := List.getElem_of_mem he
    exact ⟨j, hj, hj, hc, Lib.toList_data _⟩
  · rintro ⟨j, hj, -, hc, rfl⟩
    exact ⟨_, ⟨l[j], ⟨List.getElem_mem hj, hc⟩, rfl⟩, (Lib.toList_data _).symm⟩
noncomputable def cnfR (l : List Edt) (n : Int) : List ByteArray := if hist l n = true then ofBys (spO l l.length) else []
theorem ofBys_at {k : List (List UInt8)} {j : Nat} (h : j < (ofBys k).length) (h2 : j < k.length) : (ofBys k)[j].toList = k[j] := by
  rw [Lib.toList_data]
  simp [ofBys]
@[simp] theorem strs_nil : strs [] = [] := rfl
@[simp] theorem strs_cons (x : ByteArray) (xs) : strs (x :: xs) = .sc (.string x) :: strs xs := rfl
@[simp] theorem strs_app (xs ys : List ByteArray) : strs (xs ++ ys) = strs xs ++ strs ys := by simp [strs]
@[simp] theorem strs_tak (xs : List ByteArray) (k : Nat) : (strs xs).take k = strs (xs.take k) := by simp [strs, List.map_take]
@[simp] theorem strs_drp (xs : List ByteArray) (k : Nat) : (strs xs).drop k = strs (xs.drop k) := by simp [strs, List.map_drop]
@[simp] theorem strs_coks (xs : List ByteArray) : PV.coks (strs xs) = true := by
  induction xs with
  | nil => rfl
  | cons x r ih => simp [PV.coks, PV.cok, Value.oneCell', ih]
@[simp] theorem coks_app (xs ys : List PV) : PV.coks (xs ++ ys) = (PV.coks xs && PV.coks ys) := by
  induction xs with
  | nil => simp [PV.coks]
  | cons x r ih => simp [PV.coks, ih, Bool.and_assoc]
@[simp] theorem strs_flat (xs : List ByteArray) : (∀ x ∈ strs xs, x.flat1 = true) = True := by
  simp only [strs, List.mem_map, eq_iff_iff, iff_true]
  rintro x ⟨y, -, rfl⟩
  rfl
@[simp] theorem tak_drp (xs : List ByteArray) (k : Nat) : (xs.drop k).take (xs.length - k) = xs.drop k := List.take_of_length_le (by simp)
theorem ofBys_one (x : ByteArray) : (ofBys [x.toList]) = [x] := by
  rw [Lib.toList_data]
  simp [ofBys]
@[simp] theorem ofBys_len (k : List (List UInt8)) : (ofBys k).length = k.length := by simp [ofBys]
theorem pos_facts (K : List (List UInt8)) (x : ByteArray) : ∃ p, p ≤ (ofBys K).length ∧ Hd (∀ j (h : j < (ofBys K).length), j < p → Op.bytesLess (ofBys K)[j].toList x.toList = true) ∧ Hd (∀ h : p < (ofBys K).length, Op.bytesLess (ofBys K)[p].toList x.toList = false) ∧
    Hd (ofBys (insK K x.toList) = if ∃ h : p < (ofBys K).length, (ofBys K)[p].toList = x.toList then ofBys K else (ofBys K).take p ++ [x] ++ (ofBys K).drop p) := by
  have hpl := posK_le K x.toList
  refine ⟨posK K x.toList, by simpa using hpl, fun j h hj => ?_, fun h => ?_, ?_⟩
  · rw [bytesLess_eq, decide_eq_true_eq, ofBys_at h (by simpa using h)]
    exact posK_low hj (by simpa using h)
  · have h2 : posK K x.toList < K.length := by simpa using h
    rw [bytesLess_eq, decide_eq_false_iff_not, ofBys_at h h2]
    intro h1
    have h3 : (K.drop (posK K x.toList)).head? = some K[posK K x.toList] := by rw [List.head?_drop, List.getElem?_eq_getElem h2]
    rw [posK_drop] at h3
    have h4 := List.head?_dropWhile_not (fun y => decide (y < x.toList)) K
    rw [h3] at h4
    simp at h4
    exact absurd h1 (by simpa using h4)
  · unfold Hd insK
    by_cases hc : K[posK K x.toList]? = some x.toList
    · obtain ⟨h1, h2⟩ := List.getElem?_eq_some_iff.1 hc
      rw [if_pos hc, if_pos ⟨by simpa using h1, by rw [ofBys_at _ h1]; exact h2⟩]
    · rw [if_neg hc, if_neg]
      · have := ofBys_one x
        simp only [ofBys, List.map_append, List.map_cons, List.map_nil, List.map_take, List.map_drop, List.append_assoc, List.singleton_append] at *
        rw [List.cons_eq_cons] at this
        rw [this.1]
      · rintro ⟨h1, h2⟩
        have h3 : posK K x.toList < K.length := by simpa using h1
        rw [ofBys_at h1 h3] at h2
        exact hc (by rw [List.getElem?_eq_getElem h3, h2])
end Go.Proofs.Ytbofobjofngoeaa.EngS


set_option linter.unusedSimpArgs false
set_option linter.unusedVariables false
set_option maxHeartbeats 4000000
set_option maxRecDepth 100000
namespace Go.Proofs.Ytbofobjofngoeaa.EngS
open Go Go.Proofs Go.Eng Go.RowKit
attribute [local simp] optO
theorem c_spec_ConflictingItems (l : List Edt) (n : Int) (h : l.length ≤ 1048576) (hb : ∀ e ∈ l, EdtB e) : ACall Try.prog 44 [.v (.sl true 5 (edts true l)), int n] [.x, .x] [.v (.sl false 1 (strs (cnfR l n))), boo (hist l n)] := by
  have cg := c_spec_l22Good l n (by omega) (fun e he => (hb e he).w)
  cases hh : hist l n
  · rw [hh] at cg
    have hr : cnfR l n = [] := by simp [cnfR, hh]
    rw [hr]
    clear hb hh hr
    refine ACall.of (N := 83) tok Try.func44 rfl rfl rfl (by simp) ?_
    repeat' (first | with_reducible refine OutOK.done ?_ | refine thenQ_n ?_ | refine thenQ_r ?_ | refine thenQ_e ?_ | refine AW.seq ?_ | refine AW.dreg tok mixed [13]  [(0, false), (1, false), (2, false), (3, false), (4, false), (5, false), (6, false), (7, false), (9, false), (10, false), (11, false), (12, false), (8, false), (13, true), (14, false), (15, false)] (by decide +kernel) rfl (by simp [*]; rfl) ?_ | refine AW.dreg tok mixed [23]  [(0, false), (1, false), (2, false), (3, false), (4, false), (5, false), (6, false), (7, false), (8, false), (9, false), (10, false), (11, false), (12, false), (13, false), (14, false), (15, false), (16, false), (17, false), (19, false), (20, false), (21, false), (22, false), (18, false), (23, true), (24, false), (25, false), (26, false)] (by decide +kernel) rfl (by simp [*]; rfl) ?_ | refine AW.dtreeJ tok mixed [] [] (.fork [(1, false), (2, false), (3, false), (5, false), (6, false), (7, false), (8, false), (12, false), (13, false), (14, false)] (.fork [(0, false)] (.leaf [(4, false), (9, false), (10, false), (11, false), (15, false), (16, false)]) (.fork [(9, false)] (.leaf [(4, false), (10, false), (11, false), (15, false), (16, false)]) (.leaf [(10, false), (4, false), (11, false), (15, false), (16, false)]))) (.fork [(9, false)] (.fork [(0, false)] (.leaf [(4, false), (10, false), (11, false), (15, false), (16, false)]) (.leaf [(10, false), (4, false), (11, false), (15, false), (16, false)])) (.leaf [(10, false), (0, false), (4, false), (11, false), (15, false), (16, false)]))) (by decide +kernel) rfl (st2 := ?_) ?_ ?_ | with_reducible exact eqSt _ | with_reducible refine ForkQ.mk ?_ ?_ | with_reducible refine ChkQ.mk (by simp [*, watchB, WatchAll]) ?_ | refine OutT.chk (by simp [*]; rfl) ?_ | refine OutT.leaf (by simp [*]; rfl) ?_ | refine OutT.fork (by simp [*]; rfl) ?_ | refine AW.reg tok (by simp [*]; rfl) ?_ | refine AW.ifB (by simp [*]; rfl) ?_ | refine IfG.t ?_ | refine IfG.f ?_ | (refine IfG.p (fun hg => ?_) (fun hg => ?_) <;> (try (have hg' := hg; simp at hg'))) | (refine IfG.n (fun hg => ?_) (fun hg => ?_) <;> (try (have hg' := hg; simp at hg'))) | (refine OutOK.gateP (fun hg => ?_) (fun hg => ?_) <;> (try (have hg' := hg; simp at hg'))) | (refine OutOK.gateN (fun hg => ?_) (fun hg => ?_) <;> (try (have hg' := hg; simp at hg'))) | (refine IfG.g (fun hg => ?_) (fun hg => ?_) <;> (try (have hg' := hg; simp at hg'))) | (refine OutOK.gate (fun hg => ?_) (fun hg => ?_) <;> (try (have hg' := hg; simp at hg'))) | (refine OutOK.callF [] (by simp [*]; rfl) (by simp [*]; rfl) (by simp [*]; rfl) hb74 (by apply cg <;> first | assumption | exact Hd.out (by assumption) | ((try (clear e0)); (try (clear e1)); (try (clear e2)); (try (clear e3)); (try (clear e4)); (try (clear e5)); (try (clear e6)); (try (clear e7)); (try (clear e8)); (try (clear e9)); (try (clear e10)); (try (clear e11)); omega)) ⟨by simp [*], by simp [*], by simp [*], by simp [*], by simp [*]⟩ (by simp [*]) (by simp [*]; rfl) ?_) | refine OutOK.run (by simp [*]; rfl) ?_ | refine AW.ret ?_ | refine AW.skip ?_ | refine AW.exit ?_ | refine fin_r ?_ | refine fin_n ?_ | refine AW.block ?_ | refine blockQ_n ?_ | refine blockQ_r ?_ | refine blockQ_e ?_ | refine blockQ_o rfl ?_)
    simp [Try.f44]
  have h24 := hist_len hh
  have hck := hist_ck hh
  have hr : cnfR l n = ofBys (spO l l.length) := by simp [cnfR, hh]
  rw [hr]
  rw [hh] at cg
  have hck' : Hd _ := hck
  clear hb hh hr hck
  refine ACall.of (N := 83) tok Try.func44 rfl rfl rfl (by simp) ?_
  repeat' (first | with_reducible refine OutOK.done ?_ | refine thenQ_n ?_ | refine thenQ_r ?_ | refine thenQ_e ?_ | refine AW.seq ?_ | refine AW.dreg tok mixed [13]  [(0, false), (1, false), (2, false), (3, false), (4, false), (5, false), (6, false), (7, false), (9, false), (10, false), (11, false), (12, false), (8, false), (13, true), (14, false), (15, false)] (by decide +kernel) rfl (by simp [*]; rfl) ?_ | refine AW.dreg tok mixed [23]  [(0, false), (1, false), (2, false), (3, false), (4, false), (5, false), (6, false), (7, false), (8, false), (9, false), (10, false), (11, false), (12, false), (13, false), (14, false), (15, false), (16, false), (17, false), (19, false), (20, false), (21, false), (22, false), (18, false), (23, true), (24, false), (25, false), (26, false)] (by decide +kernel) rfl (by simp [*]; rfl) ?_ | refine AW.dtreeJ tok mixed [] [] (.fork [(1, false), (2, false), (3, false), (5, false), (6, false), (7, false), (8, false), (12, false), (13, false), (14, false)] (.fork [(0, false)] (.leaf [(4, false), (9, false), (10, false), (11, false), (15, false), (16, false)]) (.fork [(9, false)] (.leaf [(4, false), (10, false), (11, false), (15, false), (16, false)]) (.leaf [(10, false), (4, false), (11, false), (15, false), (16, false)]))) (.fork [(9, false)] (.fork [(0, false)] (.leaf [(4, false), (10, false), (11, false), (15, false), (16, false)]) (.leaf [(10, false), (4, false), (11, false), (15, false), (16, false)])) (.leaf [(10, false), (0, false), (4, false), (11, false), (15, false), (16, false)]))) (by decide +kernel) rfl (st2 := ?_) ?_ ?_ | with_reducible exact eqSt _ | with_reducible refine ForkQ.mk ?_ ?_ | with_reducible refine ChkQ.mk (by simp [*, watchB, WatchAll]) ?_ | refine OutT.chk (by simp [*]; rfl) ?_ | refine OutT.leaf (by simp [*]; rfl) ?_ | refine OutT.fork (by simp [*]; rfl) ?_ | refine AW.reg tok (by simp [*]; rfl) ?_ | refine AW.ifB (by simp [*]; rfl) ?_ | refine IfG.t ?_ | refine IfG.f ?_ | (refine IfG.p (fun hg => ?_) (fun hg => ?_) <;> (try (have hg' := hg; simp at hg'))) | (refine IfG.n (fun hg => ?_) (fun hg => ?_) <;> (try (have hg' := hg; simp at hg'))) | (refine OutOK.gateP (fun hg => ?_) (fun hg => ?_) <;> (try (have hg' := hg; simp at hg'))) | (refine OutOK.gateN (fun hg => ?_) (fun hg => ?_) <;> (try (have hg' := hg; simp at hg'))) | (refine IfG.g (fun hg => ?_) (fun hg => ?_) <;> (try (have hg' := hg; simp at hg'))) | (refine OutOK.gate (fun hg => ?_) (fun hg => ?_) <;> (try (have hg' := hg; simp at hg'))) | (refine OutOK.callF [] (by simp [*]; rfl) (by simp [*]; rfl) (by simp [*]; rfl) hb74 (by apply cg <;> first | assumption | exact Hd.out (by assumption) | ((try (clear e0)); (try (clear e1)); (try (clear e2)); (try (clear e3)); (try (clear e4)); (try (clear e5)); (try (clear e6)); (try (clear e7)); (try (clear e8)); (try (clear e9)); (try (clear e10)); (try (clear e11)); omega)) ⟨by simp [*], by simp [*], by simp [*], by simp [*], by simp [*]⟩ (by simp [*]) (by simp [*]; rfl) ?_) | refine OutOK.run (by simp [*]; rfl) ?_ | refine AW.ret ?_ | refine AW.skip ?_ | refine AW.exit ?_ | refine fin_r ?_ | refine fin_n ?_ | refine AW.block ?_ | refine blockQ_n ?_ | refine blockQ_r ?_ | refine blockQ_e ?_ | refine blockQ_o rfl ?_)
  clear cg
  refine AW.loopS (α := Nat) (fun i => i ≤ l.length) (fun i => [(0, .c (.sl true 5 (edts true l))), (6, .rf 9000 []), (7, .c (.sc (.int .i64 (i : Int))))]) (fun i => [(9000, .sv (.sl false 1 (strs (ofBys (spO l i)))))]) (fun i => l.length - i) 0 (Nat.zero_le _) [] (by simp) ⟨by simp, by simp [spO, ofBys], by simp⟩ ?_
  intro i hi
  rcases Nat.lt_or_ge i l.length with hl | hl
  · have e1 : wrap64 ((i : Int) + 1) = ((i + 1 : Nat) : Int) := by rw [w64 (by omega) (by omega)]; omega
    have hlen := spO_len l i
    obtain ⟨p, hpO, hb1, hb2, hins⟩ := pos_facts (spO l i) l[i].it
    have hstep : spO l (i + 1) = if cnfB l l[i] = true then insK (spO l i) l[i].it.toList else spO l i := by rw [spO, List.getElem?_eq_getElem hl, Option.getD_some]
    have hcn : cnfB l l[i] = decide (1 < (curL l l[i].it l.length).length) := rfl
    have cc := c_spec_l22Current l l[i].it h24 hck'.out
    have hOl : (ofBys (spO l i)).length ≤ 24 := by rw [ofBys_len]; omega
    have hfin : Hd (ofBys (spO l (i + 1)) = if cnfB l l[i] = true then (if ∃ h : p < (ofBys (spO l i)).length, (ofBys (spO l i))[p].toList = l[i].it.toList then ofBys (spO l i) else (ofBys (spO l i)).take p ++ [l[i].it] ++ (ofBys (spO l i)).drop p) else ofBys (spO l i)) := by
      unfold Hd
      rw [hstep]
      split
      · exact hins.out
      · rfl
    clear hstep hins
    rw [hcn] at hfin
    clear hcn hlen
    obtain ⟨R, hR⟩ : ∃ R, Hd (ofBys (spO l (i + 1)) = R) := ⟨_, rfl⟩
    rw [hR.out] at hfin
    generalize ofBys (spO l i) = O at *
    generalize curL l l[i].it l.length = cu at *
    obtain ⟨tm, ct, ck, it, tx, he⟩ : ∃ tm ct ck it tx, l[i] = ⟨tm, ct, ck, it, tx⟩ := ⟨_, _, _, _, _, rfl⟩
    rw [he] at hb1 hb2 cc hfin
    simp only at hb1 hb2 cc hfin
    repeat' (first | with_reducible refine OutOK.done ?_ | refine thenQ_n ?_ | refine thenQ_r ?_ | refine thenQ_e ?_ | refine AW.seq ?_ | refine AW.dreg tok mixed [13]  [(0, false), (1, false), (2, false), (3, false), (4, false), (5, false), (6, false), (7, false), (9, false), (10, false), (11, false), (12, false), (8, false), (13, true), (14, false), (15, false)] (by decide +kernel) rfl (by simp [*]; rfl) ?_ | refine AW.dreg tok mixed [23]  [(0, false), (1, false), (2, false), (3, false), (4, false), (5, false), (6, false), (7, false), (8, false), (9, false), (10, false), (11, false), (12, false), (13, false), (14, false), (15, false), (16, false), (17, false), (19, false), (20, false), (21, false), (22, false), (18, false), (23, true), (24, false), (25, false), (26, false)] (by decide +kernel) rfl (by simp [*]; rfl) ?_ | refine AW.dtreeJ tok mixed [] [] (.fork [(1, false), (2, false), (3, false), (5, false), (6, false), (7, false), (8, false), (12, false), (13, false), (14, false)] (.fork [(0, false)] (.leaf [(4, false), (9, false), (10, false), (11, false), (15, false), (16, false)]) (.fork [(9, false)] (.leaf [(4, false), (10, false), (11, false), (15, false), (16, false)]) (.leaf [(10, false), (4, false), (11, false), (15, false), (16, false)]))) (.fork [(9, false)] (.fork [(0, false)] (.leaf [(4, false), (10, false), (11, false), (15, false), (16, false)]) (.leaf [(10, false), (4, false), (11, false), (15, false), (16, false)])) (.leaf [(10, false), (0, false), (4, false), (11, false), (15, false), (16, false)]))) (by decide +kernel) rfl (st2 := ?_) ?_ ?_ | with_reducible exact eqSt _ | with_reducible refine ForkQ.mk ?_ ?_ | with_reducible refine ChkQ.mk (by simp [*, watchB, WatchAll]) ?_ | refine OutT.chk (by simp [*]; rfl) ?_ | refine OutT.leaf (by simp [*]; rfl) ?_ | refine OutT.fork (by simp [*]; rfl) ?_ | refine AW.reg tok (by simp [*]; rfl) ?_ | refine AW.ifB (by simp [*]; rfl) ?_ | refine IfG.t ?_ | refine IfG.f ?_ | (refine IfG.p (fun hg => ?_) (fun hg => ?_) <;> (try (have hg' := hg; simp at hg'))) | (refine IfG.n (fun hg => ?_) (fun hg => ?_) <;> (try (have hg' := hg; simp at hg'))) | (refine OutOK.gateP (fun hg => ?_) (fun hg => ?_) <;> (try (have hg' := hg; simp at hg'))) | (refine OutOK.gateN (fun hg => ?_) (fun hg => ?_) <;> (try (have hg' := hg; simp at hg'))) | (refine IfG.g (fun hg => ?_) (fun hg => ?_) <;> (try (have hg' := hg; simp at hg'))) | (refine OutOK.gate (fun hg => ?_) (fun hg => ?_) <;> (try (have hg' := hg; simp at hg'))) | refine OutOK.run (by simp [*]; rfl) ?_ | refine AW.ret ?_ | refine AW.skip ?_ | refine AW.exit ?_ | refine fin_r ?_ | refine fin_n ?_ | refine AW.block ?_ | refine blockQ_n ?_ | refine blockQ_r ?_ | refine blockQ_e ?_ | refine blockQ_o rfl ?_)
    refine AW.loopS (α := Nat) (fun k => k ≤ p) (fun k => [(0, .c (.sl true 5 (edts true l))), (6, .rf 9000 []), (7, .c (.sc (.int .i64 (i : Int)))), (8, .c (.sc (.int .i64 (k : Int))))]) (fun _ => [(9000, .sv (.sl false 1 (strs O)))]) (fun k => p - k) 0 (Nat.zero_le _) [] (by simp) ⟨by simp, by simp, by simp⟩ ?_
    intro k hk
    rcases Nat.lt_or_ge k p with hkp | hkp
    · have e2 : wrap64 ((k : Int) + 1) = ((k + 1 : Nat) : Int) := by rw [w64 (by ((try (clear e0)); (try (clear e1)); (try (clear e2)); (try (clear e3)); (try (clear e4)); (try (clear e5)); (try (clear e6)); (try (clear e7)); (try (clear e8)); (try (clear e9)); (try (clear e10)); (try (clear e11)); omega)) (by ((try (clear e0)); (try (clear e1)); (try (clear e2)); (try (clear e3)); (try (clear e4)); (try (clear e5)); (try (clear e6)); (try (clear e7)); (try (clear e8)); (try (clear e9)); (try (clear e10)); (try (clear e11)); omega))]; omega
      have hkO : k < O.length := by ((try (clear e0)); (try (clear e1)); (try (clear e2)); (try (clear e3)); (try (clear e4)); (try (clear e5)); (try (clear e6)); (try (clear e7)); (try (clear e8)); (try (clear e9)); (try (clear e10)); (try (clear e11)); omega)
      have hlt := hb1.out k hkO hkp
      repeat' (first | with_reducible refine OutOK.done ?_ | refine thenQ_n ?_ | refine thenQ_r ?_ | refine thenQ_e ?_ | refine AW.seq ?_ | refine AW.dreg tok mixed [13]  [(0, false), (1, false), (2, false), (3, false), (4, false), (5, false), (6, false), (7, false), (9, false), (10, false), (11, false), (12, false), (8, false), (13, true), (14, false), (15, false)] (by decide +kernel) rfl (by simp [*]; rfl) ?_ | refine AW.dreg tok mixed [23]  [(0, false), (1, false), (2, false), (3, false), (4, false), (5, false), (6, false), (7, false), (8, false), (9, false), (10, false), (11, false), (12, false), (13, false), (14, false), (15, false), (16, false), (17, false), (19, false), (20, false), (21, false), (22, false), (18, false), (23, true), (24, false), (25, false), (26, false)] (by decide +kernel) rfl (by simp [*]; rfl) ?_ | refine AW.dtreeJ tok mixed [] [] (.fork [(1, false), (2, false), (3, false), (5, false), (6, false), (7, false), (8, false), (12, false), (13, false), (14, false)] (.fork [(0, false)] (.leaf [(4, false), (9, false), (10, false), (11, false), (15, false), (16, false)]) (.fork [(9, false)] (.leaf [(4, false), (10, false), (11, false), (15, false), (16, false)]) (.leaf [(10, false), (4, false), (11, false), (15, false), (16, false)]))) (.fork [(9, false)] (.fork [(0, false)] (.leaf [(4, false), (10, false), (11, false), (15, false), (16, false)]) (.leaf [(10, false), (4, false), (11, false), (15, false), (16, false)])) (.leaf [(10, false), (0, false), (4, false), (11, false), (15, false), (16, false)]))) (by decide +kernel) rfl (st2 := ?_) ?_ ?_ | with_reducible exact eqSt _ | with_reducible refine ForkQ.mk ?_ ?_ | with_reducible refine ChkQ.mk (by simp [*, watchB, WatchAll]) ?_ | refine OutT.chk (by simp [*]; rfl) ?_ | refine OutT.leaf (by simp [*]; rfl) ?_ | refine OutT.fork (by simp [*]; rfl) ?_ | refine AW.reg tok (by simp [*]; rfl) ?_ | refine AW.ifB (by simp [*]; rfl) ?_ | refine IfG.t ?_ | refine IfG.f ?_ | (refine IfG.p (fun hg => ?_) (fun hg => ?_) <;> (try (have hg' := hg; simp at hg'))) | (refine IfG.n (fun hg => ?_) (fun hg => ?_) <;> (try (have hg' := hg; simp at hg'))) | (refine OutOK.gateP (fun hg => ?_) (fun hg => ?_) <;> (try (have hg' := hg; simp at hg'))) | (refine OutOK.gateN (fun hg => ?_) (fun hg => ?_) <;> (try (have hg' := hg; simp at hg'))) | (refine IfG.g (fun hg => ?_) (fun hg => ?_) <;> (try (have hg' := hg; simp at hg'))) | (refine OutOK.gate (fun hg => ?_) (fun hg => ?_) <;> (try (have hg' := hg; simp at hg'))) | refine OutOK.run (by simp [*]; rfl) ?_ | refine AW.ret ?_ | refine AW.skip ?_ | refine AW.exit ?_ | refine fin_r ?_ | refine fin_n ?_ | refine AW.block ?_ | refine blockQ_n ?_ | refine blockQ_r ?_ | refine blockQ_e ?_ | refine blockQ_o rfl ?_)
      exact ⟨k + 1, hkp, ⟨[], by simp, by simp, by simp, by simp⟩, by ((try (clear e0)); (try (clear e1)); (try (clear e2)); (try (clear e3)); (try (clear e4)); (try (clear e5)); (try (clear e6)); (try (clear e7)); (try (clear e8)); (try (clear e9)); (try (clear e10)); (try (clear e11)); omega)⟩
    · have hkk : k = p := by ((try (clear e0)); (try (clear e1)); (try (clear e2)); (try (clear e3)); (try (clear e4)); (try (clear e5)); (try (clear e6)); (try (clear e7)); (try (clear e8)); (try (clear e9)); (try (clear e10)); (try (clear e11)); omega)
      subst hkk
      by_cases hc : 1 < cu.length
      · have hcI : 1 < (cu.length : Int) := by omega
        rw [if_pos (by simpa using hc)] at hfin
        rcases Nat.lt_or_ge k O.length with hkO | hkO
        · have hnl := hb2.out hkO
          have hkI : ¬ (k : Int) = (O.length : Int) := by omega
          by_cases hq : O[k].toList = it.toList
          · have hfin2 : O = R := by have := hfin.out; rw [if_pos ⟨hkO, hq⟩] at this; exact this.symm
            subst hfin2
            have hbb : Op.bytesLess it.toList it.toList = false := by rw [hq] at hnl; exact hnl
            clear hb1 hb2 hfin
            repeat' (first | with_reducible refine OutOK.done ?_ | refine thenQ_n ?_ | refine thenQ_r ?_ | refine thenQ_e ?_ | refine AW.seq ?_ | refine AW.dreg tok mixed [13]  [(0, false), (1, false), (2, false), (3, false), (4, false), (5, false), (6, false), (7, false), (9, false), (10, false), (11, false), (12, false), (8, false), (13, true), (14, false), (15, false)] (by decide +kernel) rfl (by simp [*]; rfl) ?_ | refine AW.dreg tok mixed [23]  [(0, false), (1, false), (2, false), (3, false), (4, false), (5, false), (6, false), (7, false), (8, false), (9, false), (10, false), (11, false), (12, false), (13, false), (14, false), (15, false), (16, false), (17, false), (19, false), (20, false), (21, false), (22, false), (18, false), (23, true), (24, false), (25, false), (26, false)] (by decide +kernel) rfl (by simp [*]; rfl) ?_ | refine AW.dtreeJ tok mixed [] [] (.fork [(1, false), (2, false), (3, false), (5, false), (6, false), (7, false), (8, false), (12, false), (13, false), (14, false)] (.fork [(0, false)] (.leaf [(4, false), (9, false), (10, false), (11, false), (15, false), (16, false)]) (.fork [(9, false)] (.leaf [(4, false), (10, false), (11, false), (15, false), (16, false)]) (.leaf [(10, false), (4, false), (11, false), (15, false), (16, false)]))) (.fork [(9, false)] (.fork [(0, false)] (.leaf [(4, false), (10, false), (11, false), (15, false), (16, false)]) (.leaf [(10, false), (4, false), (11, false), (15, false), (16, false)])) (.leaf [(10, false), (0, false), (4, false), (11, false), (15, false), (16, false)]))) (by decide +kernel) rfl (st2 := ?_) ?_ ?_ | with_reducible exact eqSt _ | with_reducible refine ForkQ.mk ?_ ?_ | with_reducible refine ChkQ.mk (by simp [*, watchB, WatchAll]) ?_ | refine OutT.chk (by simp [*]; rfl) ?_ | refine OutT.leaf (by simp [*]; rfl) ?_ | refine OutT.fork (by simp [*]; rfl) ?_ | refine AW.reg tok (by simp [*]; rfl) ?_ | refine AW.ifB (by simp [*]; rfl) ?_ | refine IfG.t ?_ | refine IfG.f ?_ | (refine IfG.p (fun hg => ?_) (fun hg => ?_) <;> (try (have hg' := hg; simp at hg'))) | (refine IfG.n (fun hg => ?_) (fun hg => ?_) <;> (try (have hg' := hg; simp at hg'))) | (refine OutOK.gateP (fun hg => ?_) (fun hg => ?_) <;> (try (have hg' := hg; simp at hg'))) | (refine OutOK.gateN (fun hg => ?_) (fun hg => ?_) <;> (try (have hg' := hg; simp at hg'))) | (refine IfG.g (fun hg => ?_) (fun hg => ?_) <;> (try (have hg' := hg; simp at hg'))) | (refine OutOK.gate (fun hg => ?_) (fun hg => ?_) <;> (try (have hg' := hg; simp at hg'))) | (refine OutOK.callF [] (by simp [*]; rfl) (by simp [*]; rfl) (by simp [*]; rfl) hb81 (by apply cc <;> first | assumption | exact Hd.out (by assumption) | ((try (clear e0)); (try (clear e1)); (try (clear e2)); (try (clear e3)); (try (clear e4)); (try (clear e5)); (try (clear e6)); (try (clear e7)); (try (clear e8)); (try (clear e9)); (try (clear e10)); (try (clear e11)); omega)) ⟨by simp [*], by simp [*], by simp [*], by simp [*], by simp [*]⟩ (by simp [*]) (by simp [*]; rfl) ?_) | refine OutOK.run (by simp [*]; rfl) ?_ | refine AW.ret ?_ | refine AW.skip ?_ | refine AW.exit ?_ | refine fin_r ?_ | refine fin_n ?_ | refine AW.block ?_ | refine blockQ_n ?_ | refine blockQ_r ?_ | refine blockQ_e ?_ | refine blockQ_o rfl ?_)
            exact ⟨i + 1, hl, ⟨[], by simp, by simp, by simp [hR.out], by simp⟩, by ((try (clear e0)); (try (clear e1)); (try (clear e2)); (try (clear e3)); (try (clear e4)); (try (clear e5)); (try (clear e6)); (try (clear e7)); (try (clear e8)); (try (clear e9)); (try (clear e10)); (try (clear e11)); omega)⟩
          · have hfin2 : Hd (R = O.take k ++ [it] ++ O.drop k) := by have := hfin.out; rwa [if_neg (fun h => hq h.2)] at this
            clear hb1 hb2 hfin
            have b1 : k * 16 ≤ 140737488355328 := by ((try (clear e0)); (try (clear e1)); (try (clear e2)); (try (clear e3)); (try (clear e4)); (try (clear e5)); (try (clear e6)); (try (clear e7)); (try (clear e8)); (try (clear e9)); (try (clear e10)); (try (clear e11)); omega)
            have b2 : k ≤ 4611686018427387904 := by ((try (clear e0)); (try (clear e1)); (try (clear e2)); (try (clear e3)); (try (clear e4)); (try (clear e5)); (try (clear e6)); (try (clear e7)); (try (clear e8)); (try (clear e9)); (try (clear e10)); (try (clear e11)); omega)
            have b3 : (k + 1) * 16 ≤ 140737488355328 := by ((try (clear e0)); (try (clear e1)); (try (clear e2)); (try (clear e3)); (try (clear e4)); (try (clear e5)); (try (clear e6)); (try (clear e7)); (try (clear e8)); (try (clear e9)); (try (clear e10)); (try (clear e11)); omega)
            have b4 : k + 1 ≤ 4611686018427387904 := by ((try (clear e0)); (try (clear e1)); (try (clear e2)); (try (clear e3)); (try (clear e4)); (try (clear e5)); (try (clear e6)); (try (clear e7)); (try (clear e8)); (try (clear e9)); (try (clear e10)); (try (clear e11)); omega)
            have b5 : (k + 1 + (O.length - k)) * 16 ≤ 140737488355328 := by ((try (clear e0)); (try (clear e1)); (try (clear e2)); (try (clear e3)); (try (clear e4)); (try (clear e5)); (try (clear e6)); (try (clear e7)); (try (clear e8)); (try (clear e9)); (try (clear e10)); (try (clear e11)); omega)
            have b6 : k + 1 + (O.length - k) ≤ 4611686018427387904 := by ((try (clear e0)); (try (clear e1)); (try (clear e2)); (try (clear e3)); (try (clear e4)); (try (clear e5)); (try (clear e6)); (try (clear e7)); (try (clear e8)); (try (clear e9)); (try (clear e10)); (try (clear e11)); omega)
            repeat' (first | with_reducible refine OutOK.done ?_ | refine thenQ_n ?_ | refine thenQ_r ?_ | refine thenQ_e ?_ | refine AW.seq ?_ | refine AW.dreg tok mixed [13]  [(0, false), (1, false), (2, false), (3, false), (4, false), (5, false), (6, false), (7, false), (9, false), (10, false), (11, false), (12, false), (8, false), (13, true), (14, false), (15, false)] (by decide +kernel) rfl (by simp [*]; rfl) ?_ | refine AW.dreg tok mixed [23]  [(0, false), (1, false), (2, false), (3, false), (4, false), (5, false), (6, false), (7, false), (8, false), (9, false), (10, false), (11, false), (12, false), (13, false), (14, false), (15, false), (16, false), (17, false), (19, false), (20, false), (21, false), (22, false), (18, false), (23, true), (24, false), (25, false), (26, false)] (by decide +kernel) rfl (by simp [*]; rfl) ?_ | refine AW.dtreeJ tok mixed [] [] (.fork [(1, false), (2, false), (3, false), (5, false), (6, false), (7, false), (8, false), (12, false), (13, false), (14, false)] (.fork [(0, false)] (.leaf [(4, false), (9, false), (10, false), (11, false), (15, false), (16, false)]) (.fork [(9, false)] (.leaf [(4, false), (10, false), (11, false), (15, false), (16, false)]) (.leaf [(10, false), (4, false), (11, false), (15, false), (16, false)]))) (.fork [(9, false)] (.fork [(0, false)] (.leaf [(4, false), (10, false), (11, false), (15, false), (16, false)]) (.leaf [(10, false), (4, false), (11, false), (15, false), (16, false)])) (.leaf [(10, false), (0, false), (4, false), (11, false), (15, false), (16, false)]))) (by decide +kernel) rfl (st2 := ?_) ?_ ?_ | with_reducible exact eqSt _ | with_reducible refine ForkQ.mk ?_ ?_ | with_reducible refine ChkQ.mk (by simp [*, watchB, WatchAll]) ?_ | refine OutT.chk (by simp [*]; rfl) ?_ | refine OutT.leaf (by simp [*]; rfl) ?_ | refine OutT.fork (by simp [*]; rfl) ?_ | refine AW.reg tok (by simp [*]; rfl) ?_ | refine AW.ifB (by simp [*]; rfl) ?_ | refine IfG.t ?_ | refine IfG.f ?_ | (refine IfG.p (fun hg => ?_) (fun hg => ?_) <;> (try (have hg' := hg; simp at hg'))) | (refine IfG.n (fun hg => ?_) (fun hg => ?_) <;> (try (have hg' := hg; simp at hg'))) | (refine OutOK.gateP (fun hg => ?_) (fun hg => ?_) <;> (try (have hg' := hg; simp at hg'))) | (refine OutOK.gateN (fun hg => ?_) (fun hg => ?_) <;> (try (have hg' := hg; simp at hg'))) | (refine IfG.g (fun hg => ?_) (fun hg => ?_) <;> (try (have hg' := hg; simp at hg'))) | (refine OutOK.gate (fun hg => ?_) (fun hg => ?_) <;> (try (have hg' := hg; simp at hg'))) | (refine OutOK.callF [] (by simp [*]; rfl) (by simp [*]; rfl) (by simp [*]; rfl) hb81 (by apply cc <;> first | assumption | exact Hd.out (by assumption) | ((try (clear e0)); (try (clear e1)); (try (clear e2)); (try (clear e3)); (try (clear e4)); (try (clear e5)); (try (clear e6)); (try (clear e7)); (try (clear e8)); (try (clear e9)); (try (clear e10)); (try (clear e11)); omega)) ⟨by simp [*], by simp [*], by simp [*], by simp [*], by simp [*]⟩ (by simp [*]) (by simp [*]; rfl) ?_) | refine OutOK.run (by simp [*]; rfl) ?_ | refine AW.ret ?_ | refine AW.skip ?_ | refine AW.exit ?_ | refine fin_r ?_ | refine fin_n ?_ | refine AW.block ?_ | refine blockQ_n ?_ | refine blockQ_r ?_ | refine blockQ_e ?_ | refine blockQ_o rfl ?_)
            exact ⟨i + 1, hl, ⟨[(81000, 9000)], by simp, by simp, by simp [hR.out, hfin2.out], by simp⟩, by ((try (clear e0)); (try (clear e1)); (try (clear e2)); (try (clear e3)); (try (clear e4)); (try (clear e5)); (try (clear e6)); (try (clear e7)); (try (clear e8)); (try (clear e9)); (try (clear e10)); (try (clear e11)); omega)⟩
        · have hkk : k = O.length := by omega
          have hfin2 : Hd (R = O.take k ++ [it] ++ O.drop k) := by have := hfin.out; rwa [if_neg (fun h => by have := h.1; omega)] at this
          subst hkk
          clear hb1 hb2 hfin
          have b1 : O.length * 16 ≤ 140737488355328 := by ((try (clear e0)); (try (clear e1)); (try (clear e2)); (try (clear e3)); (try (clear e4)); (try (clear e5)); (try (clear e6)); (try (clear e7)); (try (clear e8)); (try (clear e9)); (try (clear e10)); (try (clear e11)); omega)
          have b2 : O.length ≤ 4611686018427387904 := by ((try (clear e0)); (try (clear e1)); (try (clear e2)); (try (clear e3)); (try (clear e4)); (try (clear e5)); (try (clear e6)); (try (clear e7)); (try (clear e8)); (try (clear e9)); (try (clear e10)); (try (clear e11)); omega)
          have b3 : (O.length + 1) * 16 ≤ 140737488355328 := by ((try (clear e0)); (try (clear e1)); (try (clear e2)); (try (clear e3)); (try (clear e4)); (try (clear e5)); (try (clear e6)); (try (clear e7)); (try (clear e8)); (try (clear e9)); (try (clear e10)); (try (clear e11)); omega)
          have b4 : O.length + 1 ≤ 4611686018427387904 := by ((try (clear e0)); (try (clear e1)); (try (clear e2)); (try (clear e3)); (try (clear e4)); (try (clear e5)); (try (clear e6)); (try (clear e7)); (try (clear e8)); (try (clear e9)); (try (clear e10)); (try (clear e11)); omega)
          repeat' (first | with_reducible refine OutOK.done ?_ | refine thenQ_n ?_ | refine thenQ_r ?_ | refine thenQ_e ?_ | refine AW.seq ?_ | refine AW.dreg tok mixed [13]  [(0, false), (1, false), (2, false), (3, false), (4, false), (5, false), (6, false), (7, false), (9, false), (10, false), (11, false), (12, false), (8, false), (13, true), (14, false), (15, false)] (by decide +kernel) rfl (by simp [*]; rfl) ?_ | refine AW.dreg tok mixed [23]  [(0, false), (1, false), (2, false), (3, false), (4, false), (5, false), (6, false), (7, false), (8, false), (9, false), (10, false), (11, false), (12, false), (13, false), (14, false), (15, false), (16, false), (17, false), (19, false), (20, false), (21, false), (22, false), (18, false), (23, true), (24, false), (25, false), (26, false)] (by decide +kernel) rfl (by simp [*]; rfl) ?_ | refine AW.dtreeJ tok mixed [] [] (.fork [(1, false), (2, false), (3, false), (5, false), (6, false), (7, false), (8, false), (12, false), (13, false), (14, false)] (.fork [(0, false)] (.leaf [(4, false), (9, false), (10, false), (11, false), (15, false), (16, false)]) (.fork [(9, false)] (.leaf [(4, false), (10, false), (11, false), (15, false), (16, false)]) (.leaf [(10, false), (4, false), (11, false), (15, false), (16, false)]))) (.fork [(9, false)] (.fork [(0, false)] (.leaf [(4, false), (10, false), (11, false), (15, false), (16, false)]) (.leaf [(10, false), (4, false), (11, false), (15, false), (16, false)])) (.leaf [(10, false), (0, false), (4, false), (11, false), (15, false), (16, false)]))) (by decide +kernel) rfl (st2 := ?_) ?_ ?_ | with_reducible exact eqSt _ | with_reducible refine ForkQ.mk ?_ ?_ | with_reducible refine ChkQ.mk (by simp [*, watchB, WatchAll]) ?_ | refine OutT.chk (by simp [*]; rfl) ?_ | refine OutT.leaf (by simp [*]; rfl) ?_ | refine OutT.fork (by simp [*]; rfl) ?_ | refine AW.reg tok (by simp [*]; rfl) ?_ | refine AW.ifB (by simp [*]; rfl) ?_ | refine IfG.t ?_ | refine IfG.f ?_ | (refine IfG.p (fun hg => ?_) (fun hg => ?_) <;> (try (have hg' := hg; simp at hg'))) | (refine IfG.n (fun hg => ?_) (fun hg => ?_) <;> (try (have hg' := hg; simp at hg'))) | (refine OutOK.gateP (fun hg => ?_) (fun hg => ?_) <;> (try (have hg' := hg; simp at hg'))) | (refine OutOK.gateN (fun hg => ?_) (fun hg => ?_) <;> (try (have hg' := hg; simp at hg'))) | (refine IfG.g (fun hg => ?_) (fun hg => ?_) <;> (try (have hg' := hg; simp at hg'))) | (refine OutOK.gate (fun hg => ?_) (fun hg => ?_) <;> (try (have hg' := hg; simp at hg'))) | (refine OutOK.callF [] (by simp [*]; rfl) (by simp [*]; rfl) (by simp [*]; rfl) hb81 (by apply cc <;> first | assumption | exact Hd.out (by assumption) | ((try (clear e0)); (try (clear e1)); (try (clear e2)); (try (clear e3)); (try (clear e4)); (try (clear e5)); (try (clear e6)); (try (clear e7)); (try (clear e8)); (try (clear e9)); (try (clear e10)); (try (clear e11)); omega)) ⟨by simp [*], by simp [*], by simp [*], by simp [*], by simp [*]⟩ (by simp [*]) (by simp [*]; rfl) ?_) | refine OutOK.run (by simp [*]; rfl) ?_ | refine AW.ret ?_ | refine AW.skip ?_ | refine AW.exit ?_ | refine fin_r ?_ | refine fin_n ?_ | refine AW.block ?_ | refine blockQ_n ?_ | refine blockQ_r ?_ | refine blockQ_e ?_ | refine blockQ_o rfl ?_)
          exact ⟨i + 1, hl, ⟨[(81000, 9000)], by simp, by simp, by simp [hR.out, hfin2.out], by simp⟩, by ((try (clear e0)); (try (clear e1)); (try (clear e2)); (try (clear e3)); (try (clear e4)); (try (clear e5)); (try (clear e6)); (try (clear e7)); (try (clear e8)); (try (clear e9)); (try (clear e10)); (try (clear e11)); omega)⟩
      · have hcI : ¬ 1 < (cu.length : Int) := by omega
        have hfin2 : O = R := by have := hfin.out; rw [if_neg (by simpa using hc)] at this; exact this.symm
        subst hfin2
        clear hfin
        rcases Nat.lt_or_ge k O.length with hkO | hkO
        · have hnl := hb2.out hkO
          have hkI : ¬ (k : Int) = (O.length : Int) := by omega
          clear hb1 hb2
          repeat' (first | with_reducible refine OutOK.done ?_ | refine thenQ_n ?_ | refine thenQ_r ?_ | refine thenQ_e ?_ | refine AW.seq ?_ | refine AW.dreg tok mixed [13]  [(0, false), (1, false), (2, false), (3, false), (4, false), (5, false), (6, false), (7, false), (9, false), (10, false), (11, false), (12, false), (8, false), (13, true), (14, false), (15, false)] (by decide +kernel) rfl (by simp [*]; rfl) ?_ | refine AW.dreg tok mixed [23]  [(0, false), (1, false), (2, false), (3, false), (4, false), (5, false), (6, false), (7, false), (8, false), (9, false), (10, false), (11, false), (12, false), (13, false), (14, false), (15, false), (16, false), (17, false), (19, false), (20, false), (21, false), (22, false), (18, false), (23, true), (24, false), (25, false), (26, false)] (by decide +kernel) rfl (by simp [*]; rfl) ?_ | refine AW.dtreeJ tok mixed [] [] (.fork [(1, false), (2, false), (3, false), (5, false), (6, false), (7, false), (8, false), (12, false), (13, false), (14, false)] (.fork [(0, false)] (.leaf [(4, false), (9, false), (10, false), (11, false), (15, false), (16, false)]) (.fork [(9, false)] (.leaf [(4, false), (10, false), (11, false), (15, false), (16, false)]) (.leaf [(10, false), (4, false), (11, false), (15, false), (16, false)]))) (.fork [(9, false)] (.fork [(0, false)] (.leaf [(4, false), (10, false), (11, false), (15, false), (16, false)]) (.leaf [(10, false), (4, false), (11, false), (15, false), (16, false)])) (.leaf [(10, false), (0, false), (4, false), (11, false), (15, false), (16, false)]))) (by decide +kernel) rfl (st2 := ?_) ?_ ?_ | with_reducible exact eqSt _ | with_reducible refine ForkQ.mk ?_ ?_ | with_reducible refine ChkQ.mk (by simp [*, watchB, WatchAll]) ?_ | refine OutT.chk (by simp [*]; rfl) ?_ | refine OutT.leaf (by simp [*]; rfl) ?_ | refine OutT.fork (by simp [*]; rfl) ?_ | refine AW.reg tok (by simp [*]; rfl) ?_ | refine AW.ifB (by simp [*]; rfl) ?_ | refine IfG.t ?_ | refine IfG.f ?_ | (refine IfG.p (fun hg => ?_) (fun hg => ?_) <;> (try (have hg' := hg; simp at hg'))) | (refine IfG.n (fun hg => ?_) (fun hg => ?_) <;> (try (have hg' := hg; simp at hg'))) | (refine OutOK.gateP (fun hg => ?_) (fun hg => ?_) <;> (try (have hg' := hg; simp at hg'))) | (refine OutOK.gateN (fun hg => ?_) (fun hg => ?_) <;> (try (have hg' := hg; simp at hg'))) | (refine IfG.g (fun hg => ?_) (fun hg => ?_) <;> (try (have hg' := hg; simp at hg'))) | (refine OutOK.gate (fun hg => ?_) (fun hg => ?_) <;> (try (have hg' := hg; simp at hg'))) | (refine OutOK.callF [] (by simp [*]; rfl) (by simp [*]; rfl) (by simp [*]; rfl) hb81 (by apply cc <;> first | assumption | exact Hd.out (by assumption) | ((try (clear e0)); (try (clear e1)); (try (clear e2)); (try (clear e3)); (try (clear e4)); (try (clear e5)); (try (clear e6)); (try (clear e7)); (try (clear e8)); (try (clear e9)); (try (clear e10)); (try (clear e11)); omega)) ⟨by simp [*], by simp [*], by simp [*], by simp [*], by simp [*]⟩ (by simp [*]) (by simp [*]; rfl) ?_) | refine OutOK.run (by simp [*]; rfl) ?_ | refine AW.ret ?_ | refine AW.skip ?_ | refine AW.exit ?_ | refine fin_r ?_ | refine fin_n ?_ | refine AW.block ?_ | refine blockQ_n ?_ | refine blockQ_r ?_ | refine blockQ_e ?_ | refine blockQ_o rfl ?_)
          exact ⟨i + 1, hl, ⟨[], by simp, by simp, by simp [hR.out], by simp⟩, by ((try (clear e0)); (try (clear e1)); (try (clear e2)); (try (clear e3)); (try (clear e4)); (try (clear e5)); (try (clear e6)); (try (clear e7)); (try (clear e8)); (try (clear e9)); (try (clear e10)); (try (clear e11)); omega)⟩
        · have hkk : k = O.length := by omega
          subst hkk
          clear hb1 hb2
          repeat' (first | with_reducible refine OutOK.done ?_ | refine thenQ_n ?_ | refine thenQ_r ?_ | refine thenQ_e ?_ | refine AW.seq ?_ | refine AW.dreg tok mixed [13]  [(0, false), (1, false), (2, false), (3, false), (4, false), (5, false), (6, false), (7, false), (9, false), (10, false), (11, false), (12, false), (8, false), (13, true), (14, false), (15, false)] (by decide +kernel) rfl (by simp [*]; rfl) ?_ | refine AW.dreg tok mixed [23]  [(0, false), (1, false), (2, false), (3, false), (4, false), (5, false), (6, false), (7, false), (8, false), (9, false), (10, false), (11, false), (12, false), (13, false), (14, false), (15, false), (16, false), (17, false), (19, false), (20, false), (21, false), (22, false), (18, false), (23, true), (24, false), (25, false), (26, false)] (by decide +kernel) rfl (by simp [*]; rfl) ?_ | refine AW.dtreeJ tok mixed [] [] (.fork [(1, false), (2, false), (3, false), (5, false), (6, false), (7, false), (8, false), (12, false), (13, false), (14, false)] (.fork [(0, false)] (.leaf [(4, false), (9, false), (10, false), (11, false), (15, false), (16, false)]) (.fork [(9, false)] (.leaf [(4, false), (10, false), (11, false), (15, false), (16, false)]) (.leaf [(10, false), (4, false), (11, false), (15, false), (16, false)]))) (.fork [(9, false)] (.fork [(0, false)] (.leaf [(4, false), (10, false), (11, false), (15, false), (16, false)]) (.leaf [(10, false), (4, false), (11, false), (15, false), (16, false)])) (.leaf [(10, false), (0, false), (4, false), (11, false), (15, false), (16, false)]))) (by decide +kernel) rfl (st2 := ?_) ?_ ?_ | with_reducible exact eqSt _ | with_reducible refine ForkQ.mk ?_ ?_ | with_reducible refine ChkQ.mk (by simp [*, watchB, WatchAll]) ?_ | refine OutT.chk (by simp [*]; rfl) ?_ | refine OutT.leaf (by simp [*]; rfl) ?_ | refine OutT.fork (by simp [*]; rfl) ?_ | refine AW.reg tok (by simp [*]; rfl) ?_ | refine AW.ifB (by simp [*]; rfl) ?_ | refine IfG.t ?_ | refine IfG.f ?_ | (refine IfG.p (fun hg => ?_) (fun hg => ?_) <;> (try (have hg' := hg; simp at hg'))) | (refine IfG.n (fun hg => ?_) (fun hg => ?_) <;> (try (have hg' := hg; simp at hg'))) | (refine OutOK.gateP (fun hg => ?_) (fun hg => ?_) <;> (try (have hg' := hg; simp at hg'))) | (refine OutOK.gateN (fun hg => ?_) (fun hg => ?_) <;> (try (have hg' := hg; simp at hg'))) | (refine IfG.g (fun hg => ?_) (fun hg => ?_) <;> (try (have hg' := hg; simp at hg'))) | (refine OutOK.gate (fun hg => ?_) (fun hg => ?_) <;> (try (have hg' := hg; simp at hg'))) | (refine OutOK.callF [] (by simp [*]; rfl) (by simp [*]; rfl) (by simp [*]; rfl) hb81 (by apply cc <;> first | assumption | exact Hd.out (by assumption) | ((try (clear e0)); (try (clear e1)); (try (clear e2)); (try (clear e3)); (try (clear e4)); (try (clear e5)); (try (clear e6)); (try (clear e7)); (try (clear e8)); (try (clear e9)); (try (clear e10)); (try (clear e11)); omega)) ⟨by simp [*], by simp [*], by simp [*], by simp [*], by simp [*]⟩ (by simp [*]) (by simp [*]; rfl) ?_) | refine OutOK.run (by simp [*]; rfl) ?_ | refine AW.ret ?_ | refine AW.skip ?_ | refine AW.exit ?_ | refine fin_r ?_ | refine fin_n ?_ | refine AW.block ?_ | refine blockQ_n ?_ | refine blockQ_r ?_ | refine blockQ_e ?_ | refine blockQ_o rfl ?_)
          exact ⟨i + 1, hl, ⟨[], by simp, by simp, by simp [hR.out], by simp⟩, by ((try (clear e0)); (try (clear e1)); (try (clear e2)); (try (clear e3)); (try (clear e4)); (try (clear e5)); (try (clear e6)); (try (clear e7)); (try (clear e8)); (try (clear e9)); (try (clear e10)); (try (clear e11)); omega)⟩
  · have hii : i = l.length := by omega
    subst hii
    repeat' (first | with_reducible refine OutOK.done ?_ | refine thenQ_n ?_ | refine thenQ_r ?_ | refine thenQ_e ?_ | refine AW.seq ?_ | refine AW.dreg tok mixed [13]  [(0, false), (1, false), (2, false), (3, false), (4, false), (5, false), (6, false), (7, false), (9, false), (10, false), (11, false), (12, false), (8, false), (13, true), (14, false), (15, false)] (by decide +kernel) rfl (by simp [*]; rfl) ?_ | refine AW.dreg tok mixed [23]  [(0, false), (1, false), (2, false), (3, false), (4, false), (5, false), (6, false), (7, false), (8, false), (9, false), (10, false), (11, false), (12, false), (13, false), (14, false), (15, false), (16, false), (17, false), (19, false), (20, false), (21, false), (22, false), (18, false), (23, true), (24, false), (25, false), (26, false)] (by decide +kernel) rfl (by simp [*]; rfl) ?_ | refine AW.dtreeJ tok mixed [] [] (.fork [(1, false), (2, false), (3, false), (5, false), (6, false), (7, false), (8, false), (12, false), (13, false), (14, false)] (.fork [(0, false)] (.leaf [(4, false), (9, false), (10, false), (11, false), (15, false), (16, false)]) (.fork [(9, false)] (.leaf [(4, false), (10, false), (11, false), (15, false), (16, false)]) (.leaf [(10, false), (4, false), (11, false), (15, false), (16, false)]))) (.fork [(9, false)] (.fork [(0, false)] (.leaf [(4, false), (10, false), (11, false), (15, false), (16, false)]) (.leaf [(10, false), (4, false), (11, false), (15, false), (16, false)])) (.leaf [(10, false), (0, false), (4, false), (11, false), (15, false), (16, false)]))) (by decide +kernel) rfl (st2 := ?_) ?_ ?_ | with_reducible exact eqSt _ | with_reducible refine ForkQ.mk ?_ ?_ | with_reducible refine ChkQ.mk (by simp [*, watchB, WatchAll]) ?_ | refine OutT.chk (by simp [*]; rfl) ?_ | refine OutT.leaf (by simp [*]; rfl) ?_ | refine OutT.fork (by simp [*]; rfl) ?_ | refine AW.reg tok (by simp [*]; rfl) ?_ | refine AW.ifB (by simp [*]; rfl) ?_ | refine IfG.t ?_ | refine IfG.f ?_ | (refine IfG.p (fun hg => ?_) (fun hg => ?_) <;> (try (have hg' := hg; simp at hg'))) | (refine IfG.n (fun hg => ?_) (fun hg => ?_) <;> (try (have hg' := hg; simp at hg'))) | (refine OutOK.gateP (fun hg => ?_) (fun hg => ?_) <;> (try (have hg' := hg; simp at hg'))) | (refine OutOK.gateN (fun hg => ?_) (fun hg => ?_) <;> (try (have hg' := hg; simp at hg'))) | (refine IfG.g (fun hg => ?_) (fun hg => ?_) <;> (try (have hg' := hg; simp at hg'))) | (refine OutOK.gate (fun hg => ?_) (fun hg => ?_) <;> (try (have hg' := hg; simp at hg'))) | refine OutOK.run (by simp [*]; rfl) ?_ | refine AW.ret ?_ | refine AW.skip ?_ | refine AW.exit ?_ | refine fin_r ?_ | refine fin_n ?_ | refine AW.block ?_ | refine blockQ_n ?_ | refine blockQ_r ?_ | refine blockQ_e ?_ | refine blockQ_o rfl ?_)
    simp [Try.f44]
end Go.Proofs.Ytbofobjofngoeaa.EngS


/-
  DERIVED: THE SHELF's CONTRACTS AT THIS DUMP, IN PLAIN WORDS (tools/lay-plain.mjs out of 'TryShelfB.lean', which tools/lay-shelf.mjs wrote): THE SAME DECLARATIONS UNDER THE SAME NAMES: 'import', 'namespace', 'open', 'def', 'theorem' AND NOTHING ELSE: no command of the shelf's: FOR A HAND-IN. Each laying: the table of numbers ('.._ren') and one theorem, a field a fact of the dump's own or the kernel's comparison; each contract: ONE APPLICATION.
-/
namespace Go.Proofs
open Go.Shelf
def Try.lays190_ren : Go.Shelf.Ren := ⟨fun | 190 => 97 | 125 => 129 | 258 => 128 | 128 => 151 | 129 => 152 | 302 => 142 | 303 => 143 | 304 => 144 | 305 => 145 | 306 => 146 | 307 => 147 | 308 => 148 | 309 => 149 | 310 => 150 | 333 => 167 | 329 => 168 | 330 => 169 | 334 => 170 | 335 => 171 | 336 => 172 | 344 => 178 | n => n, fun | 31 => 27 | 9 => 9 | 3 => 3 | 46 => 135 | 0 => 0 | 51 => 150 | 53 => 116 | 4 => 4 | 183 => 144 | 182 => 143 | 131 => 44 | 5 => 5 | 218 => 159 | 222 => 163 | 228 => 169 | 229 => 170 | n => n, fun | n => n⟩
theorem Try.lays190 : Go.Proofs.Lays.n190 Try.prog Try.lays190_ren := {
  mixed := by kernel_rfl
  f125 := Try.func129.trans (congrArg some (by kernel_rfl))
  f128 := Try.func151.trans (congrArg some (by kernel_rfl))
  f129 := Try.func152.trans (congrArg some (by kernel_rfl))
  f190 := Try.func97.trans (congrArg some (by kernel_rfl))
  f258 := Try.func128.trans (congrArg some (by kernel_rfl))
  f302 := Try.func142.trans (congrArg some (by kernel_rfl))
  f303 := Try.func143.trans (congrArg some (by kernel_rfl))
  f304 := Try.func144.trans (congrArg some (by kernel_rfl))
  f305 := Try.func145.trans (congrArg some (by kernel_rfl))
  f306 := Try.func146.trans (congrArg some (by kernel_rfl))
  f307 := Try.func147.trans (congrArg some (by kernel_rfl))
  f308 := Try.func148.trans (congrArg some (by kernel_rfl))
  f309 := Try.func149.trans (congrArg some (by kernel_rfl))
  f310 := Try.func150.trans (congrArg some (by kernel_rfl))
  f329 := Try.func168.trans (congrArg some (by kernel_rfl))
  f330 := Try.func169.trans (congrArg some (by kernel_rfl))
  f333 := Try.func167.trans (congrArg some (by kernel_rfl))
  f334 := Try.func170.trans (congrArg some (by kernel_rfl))
  f335 := Try.func171.trans (congrArg some (by kernel_rfl))
  f336 := Try.func172.trans (congrArg some (by kernel_rfl))
  f344 := Try.func178.trans (congrArg some (by kernel_rfl))
  t0 := Try.underlying0
  a0 := Try.isAgg0
  z0 := Try.sizeOf0
  v0 := Try.zeroValue0
  t3 := Try.underlying3
  a3 := Try.isAgg3
  z3 := Try.sizeOf3
  v3 := Try.zeroValue3
  t4 := Try.underlying4
  a4 := Try.isAgg4
  z4 := Try.sizeOf4
  v4 := Try.zeroValue4
  t5 := Try.underlying5
  a5 := Try.isAgg5
  z5 := Try.sizeOf5
  v5 := Try.zeroValue5
  t9 := Try.underlying9
  a9 := Try.isAgg9
  z9 := Try.sizeOf9
  v9 := Try.zeroValue9
  t31 := Try.underlying27
  a31 := Try.isAgg27
  z31 := Try.sizeOf27
  v31 := Try.zeroValue27
  t46 := Try.underlying135
  a46 := Try.isAgg135
  z46 := Try.sizeOf135
  v46 := Try.zeroValue135
  t51 := Try.underlying150
  a51 := Try.isAgg150
  z51 := Try.sizeOf150
  v51 := Try.zeroValue150
  t53 := Try.underlying116
  a53 := Try.isAgg116
  z53 := Try.sizeOf116
  v53 := Try.zeroValue116
  t131 := Try.underlying44
  a131 := Try.isAgg44
  z131 := Try.sizeOf44
  v131 := Try.zeroValue44
  t182 := Try.underlying143
  a182 := Try.isAgg143
  z182 := Try.sizeOf143
  v182 := Try.zeroValue143
  t183 := Try.underlying144
  a183 := Try.isAgg144
  z183 := Try.sizeOf144
  v183 := Try.zeroValue144
  t218 := Try.underlying159
  a218 := Try.isAgg159
  z218 := Try.sizeOf159
  v218 := Try.zeroValue159
  t222 := Try.underlying163
  a222 := Try.isAgg163
  z222 := Try.sizeOf163
  v222 := Try.zeroValue163
  t228 := Try.underlying169
  a228 := Try.isAgg169
  z228 := Try.sizeOf169
  v228 := Try.zeroValue169
  t229 := Try.underlying170
  a229 := Try.isAgg170
  z229 := Try.sizeOf170
  v229 := Try.zeroValue170 }
open Go.Sort Go.RowKit in
theorem Try.slices_Sort_string (blk off cap : Nat) (ss : List (List UInt8)) (w : World) (hH : Holds encStr w blk off ss.toArray) (hblk : blk < w.heap.size) (hsz : ss.length < 4611686018427387904) :
    Calls Try.prog 97 #[.slice (some ⟨blk, off, none⟩) ss.length cap] w fun e w' =>
      e = .returned (.tuple #[]) ∧ ∃ n os, w' = grow (putRow encStr (Sort.ahead w n) blk off (ss.mergeSort fun x y => decide (x ≤ y)).toArray) os := Any.slices_Sort_string Try.lays190 blk off cap ss w hH hblk hsz
open Go.RowKit Go.Sort in
theorem Try.slices_Sort_string_none (p : Option Addr) (cap : Nat) (w : World) :
    Calls Try.prog 97 #[.slice p 0 cap] w fun e w' => e = .returned (.tuple #[]) ∧ w' = w := Any.slices_Sort_string_none Try.lays190 p cap w
end Go.Proofs

namespace Go.Proofs
open Go.Shelf
def Try.lays194_ren : Go.Shelf.Ren := ⟨fun | 194 => 98 | n => n, fun | 31 => 27 | 9 => 9 | 3 => 3 | 4 => 4 | 0 => 0 | n => n, fun | n => n⟩
theorem Try.lays194 : Go.Proofs.Lays.n194 Try.prog Try.lays194_ren := {
  mixed := by kernel_rfl
  f194 := Try.func98.trans (congrArg some (by kernel_rfl))
  t0 := Try.underlying0
  a0 := Try.isAgg0
  z0 := Try.sizeOf0
  v0 := Try.zeroValue0
  t3 := Try.underlying3
  a3 := Try.isAgg3
  z3 := Try.sizeOf3
  v3 := Try.zeroValue3
  t4 := Try.underlying4
  a4 := Try.isAgg4
  z4 := Try.sizeOf4
  v4 := Try.zeroValue4
  t9 := Try.underlying9
  a9 := Try.isAgg9
  z9 := Try.sizeOf9
  v9 := Try.zeroValue9
  t31 := Try.underlying27
  a31 := Try.isAgg27
  z31 := Try.sizeOf27
  v31 := Try.zeroValue27 }
open Go.RowKit Go.Lib Go.Sort in
theorem Try.slices_Compact_string (blk off cap : Nat) (zs : List (List UInt8)) (w : World) (hH : Holds encStr w blk off zs.toArray) (hsz : zs.length ≤ 9223372036854775807) (hcap : zs.length ≤ cap) :
    Calls Try.prog 98 #[.slice (some ⟨blk, off, none⟩) zs.length cap] w fun e w' => e = .returned (.slice (some ⟨blk, off, none⟩) (Lib.compact zs).length cap) ∧ ∃ q, w' = putRow encStr (Sort.ahead w q) blk off (Lib.compact zs ++ List.replicate (zs.length - (Lib.compact zs).length) []).toArray := Any.slices_Compact_string Try.lays194 blk off cap zs w hH hsz hcap
open Go.RowKit Go.Lib Go.Sort in
theorem Try.slices_Compact_string_empty (a : Option Addr) (cap : Nat) (w : World) :
    Calls Try.prog 98 #[.slice a 0 cap] w fun e w' => e = .returned (.slice a 0 cap) ∧ w' = w := Any.slices_Compact_string_empty Try.lays194 a cap w
end Go.Proofs

set_option linter.unusedSimpArgs false
set_option linter.unusedVariables false
set_option maxHeartbeats 4000000
set_option maxRecDepth 100000
namespace Go.Proofs.Ytbofobjofngoeaa.EngS
open Go Go.Proofs Go.Eng Go.RowKit
theorem c_Sort_strs (xs : List ByteArray) (h : xs.length < 4611686018427387904) : ACall Try.prog 97 [.v (.sl false 1 (strs xs))] [.v (.sl false 1 (strs (ofBys (srtK (bysOf xs)))))] [] :=
  sort_strs 97 srtK srtK_len (fun blk off cap ss w hH hb hs => Try.slices_Sort_string blk off cap ss w hH hb hs) Try.slices_Sort_string_none xs h
theorem c_Compact_strs (xs : List ByteArray) (h : xs.length < 4611686018427387904) : ACall Try.prog 98 [.v (.sl false 1 (strs xs))] [.x] [.v (.sl false 1 (strs (ofBys (Lib.compact (bysOf xs)))))] :=
  compact_strs 98 Lib.compact (fun blk off cap zs w hH hs hc => Try.slices_Compact_string blk off cap zs w hH hs hc) Try.slices_Compact_string_empty compact_le xs h
theorem cnI_step (l : List Edt) (i : Nat) (h : i < l.length) : cnI l (i + 1) = if cnfB l l[i] = true then cnI l i ++ [l[i].it] else cnI l i := by
  unfold cnI
  rw [List.take_succ_eq_append_getElem h, List.filter_append, List.map_append]
  by_cases hc : cnfB l l[i] = true <;> simp [hc]
theorem cnI_len (l : List Edt) (i : Nat) (h : i ≤ l.length) : (cnI l i).length ≤ i := by
  unfold cnI
  rw [List.length_map]
  refine Nat.le_trans (List.length_filter_le _ _) ?_
  rw [List.length_take]
  omega
theorem c_impl_ConflictingItems (l : List Edt) (n : Int) (h : l.length ≤ 1048576) (hb : ∀ e ∈ l, EdtB e) : ACall Try.prog 45 [.v (.sl true 5 (edts true l)), int n] [.x, .x] [.v (.sl false 1 (strs (cnfR l n))), boo (hist l n)] := by
  have cg := c_impl_IsValidHistory l n (by omega) (fun e he => (hb e he).w)
  cases hh : hist l n
  · rw [hh] at cg
    have hr : cnfR l n = [] := by simp [cnfR, hh]
    rw [hr]
    clear hb hh hr
    refine ACall.of (N := 36) tok Try.func45 rfl rfl rfl (by simp) ?_
    repeat' (first | with_reducible refine OutOK.done ?_ | refine thenQ_n ?_ | refine thenQ_r ?_ | refine thenQ_e ?_ | refine AW.seq ?_ | refine AW.reg tok (by simp [*]; rfl) ?_ | refine AW.ifB (by simp [*]; rfl) ?_ | refine IfG.t ?_ | refine IfG.f ?_ | (refine IfG.p (fun hg => ?_) (fun hg => ?_) <;> (try (have hg' := hg; simp at hg'))) | (refine IfG.n (fun hg => ?_) (fun hg => ?_) <;> (try (have hg' := hg; simp at hg'))) | (refine OutOK.gateP (fun hg => ?_) (fun hg => ?_) <;> (try (have hg' := hg; simp at hg'))) | (refine OutOK.gateN (fun hg => ?_) (fun hg => ?_) <;> (try (have hg' := hg; simp at hg'))) | (refine IfG.g (fun hg => ?_) (fun hg => ?_) <;> (try (have hg' := hg; simp at hg'))) | (refine OutOK.gate (fun hg => ?_) (fun hg => ?_) <;> (try (have hg' := hg; simp at hg'))) | (refine OutOK.callF [] (by simp [*]; rfl) (by simp [*]; rfl) (by simp [*]; rfl) hb26 (by apply cg <;> first | assumption | exact Hd.out (by assumption) | ((try (clear e0)); (try (clear e1)); (try (clear e2)); (try (clear e3)); (try (clear e4)); (try (clear e5)); (try (clear e6)); (try (clear e7)); (try (clear e8)); (try (clear e9)); (try (clear e10)); (try (clear e11)); omega)) ⟨by simp [*], by simp [*], by simp [*], by simp [*], by simp [*]⟩ (by simp [*]) (by simp [*]; rfl) ?_) | refine OutOK.run (by simp [*]; rfl) ?_ | refine AW.ret ?_ | refine AW.skip ?_ | refine AW.exit ?_ | refine fin_r ?_ | refine fin_n ?_ | refine AW.block ?_ | refine blockQ_n ?_ | refine blockQ_r ?_ | refine blockQ_e ?_ | refine blockQ_o rfl ?_)
    simp [Try.f45]
  have h24 := hist_len hh
  have hck := hist_ck hh
  have hr : cnfR l n = ofBys (spO l l.length) := by simp [cnfR, hh]
  rw [hr]
  rw [hh] at cg
  have hck' : Hd _ := hck
  clear hb hh hr hck
  have hfin : Hd (ofBys (Lib.compact (bysOf (ofBys (srtK (bysOf (cnI l l.length)))))) = ofBys (spO l l.length)) := by unfold Hd; rw [bys_ofBys, cn_same]
  obtain ⟨R, hR⟩ : ∃ R, Hd (ofBys (spO l l.length) = R) := ⟨_, rfl⟩
  rw [hR.out] at hfin ⊢
  refine ACall.of (N := 36) tok Try.func45 rfl rfl rfl (by simp) ?_
  repeat' (first | with_reducible refine OutOK.done ?_ | refine thenQ_n ?_ | refine thenQ_r ?_ | refine thenQ_e ?_ | refine AW.seq ?_ | refine AW.reg tok (by simp [*]; rfl) ?_ | refine AW.ifB (by simp [*]; rfl) ?_ | refine IfG.t ?_ | refine IfG.f ?_ | (refine IfG.p (fun hg => ?_) (fun hg => ?_) <;> (try (have hg' := hg; simp at hg'))) | (refine IfG.n (fun hg => ?_) (fun hg => ?_) <;> (try (have hg' := hg; simp at hg'))) | (refine OutOK.gateP (fun hg => ?_) (fun hg => ?_) <;> (try (have hg' := hg; simp at hg'))) | (refine OutOK.gateN (fun hg => ?_) (fun hg => ?_) <;> (try (have hg' := hg; simp at hg'))) | (refine IfG.g (fun hg => ?_) (fun hg => ?_) <;> (try (have hg' := hg; simp at hg'))) | (refine OutOK.gate (fun hg => ?_) (fun hg => ?_) <;> (try (have hg' := hg; simp at hg'))) | (refine OutOK.callF [] (by simp [*]; rfl) (by simp [*]; rfl) (by simp [*]; rfl) hb26 (by apply cg <;> first | assumption | exact Hd.out (by assumption) | ((try (clear e0)); (try (clear e1)); (try (clear e2)); (try (clear e3)); (try (clear e4)); (try (clear e5)); (try (clear e6)); (try (clear e7)); (try (clear e8)); (try (clear e9)); (try (clear e10)); (try (clear e11)); omega)) ⟨by simp [*], by simp [*], by simp [*], by simp [*], by simp [*]⟩ (by simp [*]) (by simp [*]; rfl) ?_) | refine OutOK.run (by simp [*]; rfl) ?_ | refine AW.ret ?_ | refine AW.skip ?_ | refine AW.exit ?_ | refine fin_r ?_ | refine fin_n ?_ | refine AW.block ?_ | refine blockQ_n ?_ | refine blockQ_r ?_ | refine blockQ_e ?_ | refine blockQ_o rfl ?_)
  clear cg
  refine AW.loopS (α := Nat) (fun i => i ≤ l.length) (fun i => [(0, .c (.sl true 5 (edts true l))), (6, .rf 13000 []), (14, .c (.sl true 5 (edts true l))), (15, .c (.sc (.int .i64 (l.length : Int)))), (16, .c (.sc (.int .i64 (i : Int))))]) (fun i => [(13000, .sv (.sl false 1 (strs (cnI l i))))]) (fun i => l.length - i) 0 (Nat.zero_le _) [] (by simp) ⟨by simp, by simp [cnI], by simp⟩ ?_
  intro i hi
  rcases Nat.lt_or_ge i l.length with hl | hl
  · have hs := cnI_step l i hl
    have hln := cnI_len l i hi
    have cc := c_impl_current l l[i].it h24 hck'.out
    have hcn : cnfB l l[i] = decide (1 < (curL l l[i].it l.length).length) := rfl
    rw [hcn] at hs
    clear hcn
    obtain ⟨S, hS⟩ : ∃ S, Hd (cnI l (i + 1) = S) := ⟨_, rfl⟩
    rw [hS.out] at hs
    generalize cnI l i = O at *
    generalize curL l l[i].it l.length = cu at *
    have b1 : (O.length + 1) * 16 ≤ 140737488355328 := by omega
    have b2 : O.length + 1 ≤ 4611686018427387904 := by omega
    have e1 : wrap64 ((i : Int) + 1) = ((i + 1 : Nat) : Int) := by rw [w64 (by omega) (by omega)]; omega
    obtain ⟨tm, ct, ck, it, tx, he⟩ : ∃ tm ct ck it tx, l[i] = ⟨tm, ct, ck, it, tx⟩ := ⟨_, _, _, _, _, rfl⟩
    rw [he] at cc hs
    simp only at cc hs
    by_cases hc : 1 < cu.length
    · have hcI : 1 < (cu.length : Int) := by clear e1; omega
      rw [if_pos (by simpa using hc)] at hs
      replace hs : Hd _ := hs
      repeat' (first | with_reducible refine OutOK.done ?_ | refine thenQ_n ?_ | refine thenQ_r ?_ | refine thenQ_e ?_ | refine AW.seq ?_ | refine AW.reg tok (by simp [*]; rfl) ?_ | refine AW.ifB (by simp [*]; rfl) ?_ | refine IfG.t ?_ | refine IfG.f ?_ | (refine IfG.p (fun hg => ?_) (fun hg => ?_) <;> (try (have hg' := hg; simp at hg'))) | (refine IfG.n (fun hg => ?_) (fun hg => ?_) <;> (try (have hg' := hg; simp at hg'))) | (refine OutOK.gateP (fun hg => ?_) (fun hg => ?_) <;> (try (have hg' := hg; simp at hg'))) | (refine OutOK.gateN (fun hg => ?_) (fun hg => ?_) <;> (try (have hg' := hg; simp at hg'))) | (refine IfG.g (fun hg => ?_) (fun hg => ?_) <;> (try (have hg' := hg; simp at hg'))) | (refine OutOK.gate (fun hg => ?_) (fun hg => ?_) <;> (try (have hg' := hg; simp at hg'))) | (refine OutOK.callF [] (by simp [*]; rfl) (by simp [*]; rfl) (by simp [*]; rfl) hb83 (by apply cc <;> first | assumption | exact Hd.out (by assumption) | ((try (clear e0)); (try (clear e1)); (try (clear e2)); (try (clear e3)); (try (clear e4)); (try (clear e5)); (try (clear e6)); (try (clear e7)); (try (clear e8)); (try (clear e9)); (try (clear e10)); (try (clear e11)); omega)) ⟨by simp [*], by simp [*], by simp [*], by simp [*], by simp [*]⟩ (by simp [*]) (by simp [*]; rfl) ?_) | refine OutOK.run (by simp [*]; rfl) ?_ | refine AW.ret ?_ | refine AW.skip ?_ | refine AW.exit ?_ | refine fin_r ?_ | refine fin_n ?_ | refine AW.block ?_ | refine blockQ_n ?_ | refine blockQ_r ?_ | refine blockQ_e ?_ | refine blockQ_o rfl ?_)
      exact ⟨i + 1, hl, ⟨[(30000, 13000)], by simp, by simp, by simp [hS.out, hs.out], by simp⟩, by ((try (clear e0)); (try (clear e1)); (try (clear e2)); (try (clear e3)); (try (clear e4)); (try (clear e5)); (try (clear e6)); (try (clear e7)); (try (clear e8)); (try (clear e9)); (try (clear e10)); (try (clear e11)); omega)⟩
    · have hcI : ¬ 1 < (cu.length : Int) := by clear e1; omega
      rw [if_neg (by simpa using hc)] at hs
      subst hs
      repeat' (first | with_reducible refine OutOK.done ?_ | refine thenQ_n ?_ | refine thenQ_r ?_ | refine thenQ_e ?_ | refine AW.seq ?_ | refine AW.reg tok (by simp [*]; rfl) ?_ | refine AW.ifB (by simp [*]; rfl) ?_ | refine IfG.t ?_ | refine IfG.f ?_ | (refine IfG.p (fun hg => ?_) (fun hg => ?_) <;> (try (have hg' := hg; simp at hg'))) | (refine IfG.n (fun hg => ?_) (fun hg => ?_) <;> (try (have hg' := hg; simp at hg'))) | (refine OutOK.gateP (fun hg => ?_) (fun hg => ?_) <;> (try (have hg' := hg; simp at hg'))) | (refine OutOK.gateN (fun hg => ?_) (fun hg => ?_) <;> (try (have hg' := hg; simp at hg'))) | (refine IfG.g (fun hg => ?_) (fun hg => ?_) <;> (try (have hg' := hg; simp at hg'))) | (refine OutOK.gate (fun hg => ?_) (fun hg => ?_) <;> (try (have hg' := hg; simp at hg'))) | (refine OutOK.callF [] (by simp [*]; rfl) (by simp [*]; rfl) (by simp [*]; rfl) hb83 (by apply cc <;> first | assumption | exact Hd.out (by assumption) | ((try (clear e0)); (try (clear e1)); (try (clear e2)); (try (clear e3)); (try (clear e4)); (try (clear e5)); (try (clear e6)); (try (clear e7)); (try (clear e8)); (try (clear e9)); (try (clear e10)); (try (clear e11)); omega)) ⟨by simp [*], by simp [*], by simp [*], by simp [*], by simp [*]⟩ (by simp [*]) (by simp [*]; rfl) ?_) | refine OutOK.run (by simp [*]; rfl) ?_ | refine AW.ret ?_ | refine AW.skip ?_ | refine AW.exit ?_ | refine fin_r ?_ | refine fin_n ?_ | refine AW.block ?_ | refine blockQ_n ?_ | refine blockQ_r ?_ | refine blockQ_e ?_ | refine blockQ_o rfl ?_)
      exact ⟨i + 1, hl, ⟨[], by simp, by simp, by simp [hS.out], by simp⟩, by ((try (clear e0)); (try (clear e1)); (try (clear e2)); (try (clear e3)); (try (clear e4)); (try (clear e5)); (try (clear e6)); (try (clear e7)); (try (clear e8)); (try (clear e9)); (try (clear e10)); (try (clear e11)); omega)⟩
  · have hii : i = l.length := by omega
    subst hii
    have hln := cnI_len l l.length hi
    have cs := c_Sort_strs (cnI l l.length) (by omega)
    have hsl := srtK_len (bysOf (cnI l l.length))
    have cp := c_Compact_strs (ofBys (srtK (bysOf (cnI l l.length)))) (by rw [ofBys_len, hsl]; simp only [bysOf, List.length_map]; omega)
    rw [hfin.out] at cp
    clear hsl
    generalize ofBys (srtK (bysOf (cnI l l.length))) = S at *
    generalize cnI l l.length = O at *
    repeat' (first | with_reducible refine OutOK.done ?_ | refine thenQ_n ?_ | refine thenQ_r ?_ | refine thenQ_e ?_ | refine AW.seq ?_ | refine AW.reg tok (by simp [*]; rfl) ?_ | refine AW.ifB (by simp [*]; rfl) ?_ | refine IfG.t ?_ | refine IfG.f ?_ | (refine IfG.p (fun hg => ?_) (fun hg => ?_) <;> (try (have hg' := hg; simp at hg'))) | (refine IfG.n (fun hg => ?_) (fun hg => ?_) <;> (try (have hg' := hg; simp at hg'))) | (refine OutOK.gateP (fun hg => ?_) (fun hg => ?_) <;> (try (have hg' := hg; simp at hg'))) | (refine OutOK.gateN (fun hg => ?_) (fun hg => ?_) <;> (try (have hg' := hg; simp at hg'))) | (refine IfG.g (fun hg => ?_) (fun hg => ?_) <;> (try (have hg' := hg; simp at hg'))) | (refine OutOK.gate (fun hg => ?_) (fun hg => ?_) <;> (try (have hg' := hg; simp at hg'))) | (refine OutOK.callF [true] (by simp [*]; rfl) (by simp [*]; rfl) (by simp [*]; rfl) hb97 (by apply cs <;> first | assumption | exact Hd.out (by assumption) | ((try (clear e0)); (try (clear e1)); (try (clear e2)); (try (clear e3)); (try (clear e4)); (try (clear e5)); (try (clear e6)); (try (clear e7)); (try (clear e8)); (try (clear e9)); (try (clear e10)); (try (clear e11)); omega)) ⟨by simp [*], by simp [*], by simp [*], by simp [*], by simp [*]⟩ (by simp [*]) (by simp [*]; rfl) ?_) | (refine OutOK.callF [true] (by simp [*]; rfl) (by simp [*]; rfl) (by simp [*]; rfl) hb98 (by apply cp <;> first | assumption | exact Hd.out (by assumption) | ((try (clear e0)); (try (clear e1)); (try (clear e2)); (try (clear e3)); (try (clear e4)); (try (clear e5)); (try (clear e6)); (try (clear e7)); (try (clear e8)); (try (clear e9)); (try (clear e10)); (try (clear e11)); omega)) ⟨by simp [*], by simp [*], by simp [*], by simp [*], by simp [*]⟩ (by simp [*]) (by simp [*]; rfl) ?_) | refine OutOK.run (by simp [*]; rfl) ?_ | refine AW.ret ?_ | refine AW.skip ?_ | refine AW.exit ?_ | refine fin_r ?_ | refine fin_n ?_ | refine AW.block ?_ | refine blockQ_n ?_ | refine blockQ_r ?_ | refine blockQ_e ?_ | refine blockQ_o rfl ?_)
    simp [Try.f45]
end Go.Proofs.Ytbofobjofngoeaa.EngS


set_option linter.unusedSimpArgs false
set_option linter.unusedVariables false
set_option maxHeartbeats 4000000
set_option maxRecDepth 100000
namespace Go.Proofs.Ytbofobjofngoeaa.EngS
open Go Go.Proofs Go.Eng Go.RowKit
theorem c_laws_eqStringS (l : List ByteArray) (h : l.length < 9223372036854775807) : ACall Try.prog 46 [.v (.sl true 1 (strs l)), .v (.sl true 1 (strs l))] [.x, .x] [boo true] := by
  refine ACall.of (N := 26) tok Try.func46 rfl rfl rfl (by simp) ?_
  repeat' (first | with_reducible refine OutOK.done ?_ | refine thenQ_n ?_ | refine thenQ_r ?_ | refine thenQ_e ?_ | refine AW.seq ?_ | refine AW.dreg tok mixed [7]  [(0, false), (1, false), (2, false), (4, false), (5, false), (6, false), (3, false), (7, true), (8, false)] (by decide +kernel) rfl (by simp [*]; rfl) ?_ | refine AW.reg tok (by simp [*]; rfl) ?_ | refine AW.ifB (by simp [*]; rfl) ?_ | refine IfG.t ?_ | refine IfG.f ?_ | (refine IfG.p (fun hg => ?_) (fun hg => ?_) <;> (try (have hg' := hg; simp at hg'))) | (refine IfG.n (fun hg => ?_) (fun hg => ?_) <;> (try (have hg' := hg; simp at hg'))) | (refine OutOK.gateP (fun hg => ?_) (fun hg => ?_) <;> (try (have hg' := hg; simp at hg'))) | (refine OutOK.gateN (fun hg => ?_) (fun hg => ?_) <;> (try (have hg' := hg; simp at hg'))) | (refine IfG.g (fun hg => ?_) (fun hg => ?_) <;> (try (have hg' := hg; simp at hg'))) | (refine OutOK.gate (fun hg => ?_) (fun hg => ?_) <;> (try (have hg' := hg; simp at hg'))) | refine OutOK.run (by simp [*]; rfl) ?_ | refine AW.ret ?_ | refine AW.skip ?_ | refine AW.exit ?_ | refine fin_r ?_ | refine fin_n ?_ | refine AW.block ?_ | refine blockQ_n ?_ | refine blockQ_r ?_ | refine blockQ_e ?_ | refine blockQ_o rfl ?_)
  refine AW.loopL (fun i => i ≤ l.length) (fun i => [(0, .c (.sl true 1 (strs l))), (1, .c (.sl true 1 (strs l))), (5, .c (.sc (.int .i64 (i : Int))))]) (fun _ => []) (fun i => l.length - i) 0 (Nat.zero_le _) ⟨by simp, by simp, by simp⟩ ?_
  intro i hi
  rcases Nat.lt_or_ge i l.length with hl | hl
  · have e1 : wrap64 ((i : Int) + 1) = ((i + 1 : Nat) : Int) := by rw [w64 (by omega) (by omega)]; omega
    repeat' (first | with_reducible refine OutOK.done ?_ | refine thenQ_n ?_ | refine thenQ_r ?_ | refine thenQ_e ?_ | refine AW.seq ?_ | refine AW.dreg tok mixed [7]  [(0, false), (1, false), (2, false), (4, false), (5, false), (6, false), (3, false), (7, true), (8, false)] (by decide +kernel) rfl (by simp [*]; rfl) ?_ | refine AW.reg tok (by simp [*]; rfl) ?_ | refine AW.ifB (by simp [*]; rfl) ?_ | refine IfG.t ?_ | refine IfG.f ?_ | (refine IfG.p (fun hg => ?_) (fun hg => ?_) <;> (try (have hg' := hg; simp at hg'))) | (refine IfG.n (fun hg => ?_) (fun hg => ?_) <;> (try (have hg' := hg; simp at hg'))) | (refine OutOK.gateP (fun hg => ?_) (fun hg => ?_) <;> (try (have hg' := hg; simp at hg'))) | (refine OutOK.gateN (fun hg => ?_) (fun hg => ?_) <;> (try (have hg' := hg; simp at hg'))) | (refine IfG.g (fun hg => ?_) (fun hg => ?_) <;> (try (have hg' := hg; simp at hg'))) | (refine OutOK.gate (fun hg => ?_) (fun hg => ?_) <;> (try (have hg' := hg; simp at hg'))) | refine OutOK.run (by simp [*]; rfl) ?_ | refine AW.ret ?_ | refine AW.skip ?_ | refine AW.exit ?_ | refine fin_r ?_ | refine fin_n ?_ | refine AW.block ?_ | refine blockQ_n ?_ | refine blockQ_r ?_ | refine blockQ_e ?_ | refine blockQ_o rfl ?_)
    exact ⟨i + 1, hl, ⟨by simp, by simp, by simp⟩, by ((try (clear e0)); (try (clear e1)); (try (clear e2)); (try (clear e3)); (try (clear e4)); (try (clear e5)); (try (clear e6)); (try (clear e7)); (try (clear e8)); (try (clear e9)); (try (clear e10)); (try (clear e11)); omega)⟩
  · have hn : ¬ i < l.length := by omega
    repeat' (first | with_reducible refine OutOK.done ?_ | refine thenQ_n ?_ | refine thenQ_r ?_ | refine thenQ_e ?_ | refine AW.seq ?_ | refine AW.dreg tok mixed [7]  [(0, false), (1, false), (2, false), (4, false), (5, false), (6, false), (3, false), (7, true), (8, false)] (by decide +kernel) rfl (by simp [*]; rfl) ?_ | refine AW.reg tok (by simp [*]; rfl) ?_ | refine AW.ifB (by simp [*]; rfl) ?_ | refine IfG.t ?_ | refine IfG.f ?_ | (refine IfG.p (fun hg => ?_) (fun hg => ?_) <;> (try (have hg' := hg; simp at hg'))) | (refine IfG.n (fun hg => ?_) (fun hg => ?_) <;> (try (have hg' := hg; simp at hg'))) | (refine OutOK.gateP (fun hg => ?_) (fun hg => ?_) <;> (try (have hg' := hg; simp at hg'))) | (refine OutOK.gateN (fun hg => ?_) (fun hg => ?_) <;> (try (have hg' := hg; simp at hg'))) | (refine IfG.g (fun hg => ?_) (fun hg => ?_) <;> (try (have hg' := hg; simp at hg'))) | (refine OutOK.gate (fun hg => ?_) (fun hg => ?_) <;> (try (have hg' := hg; simp at hg'))) | refine OutOK.run (by simp [*]; rfl) ?_ | refine AW.ret ?_ | refine AW.skip ?_ | refine AW.exit ?_ | refine fin_r ?_ | refine fin_n ?_ | refine AW.block ?_ | refine blockQ_n ?_ | refine blockQ_r ?_ | refine blockQ_e ?_ | refine blockQ_o rfl ?_)
    all_goals (try simp [*, Try.f46])
def mkT (n : Nat) : ByteArray := ⟨#[109]⟩ ++ figs n ⟨#[]⟩
def upS (k n : Nat) : List ByteArray := (List.range n).map fun j => mkT (k + j)
theorem upS_len (k n : Nat) : (upS k n).length = n := by simp [upS]
def mkd (k : Nat) (xs : List ByteArray) (i : Nat) : List ByteArray := upS k i ++ xs.drop i
theorem mkd_len (k : Nat) (xs : List ByteArray) (i : Nat) (h : i ≤ xs.length) : (mkd k xs i).length = xs.length := by simp [mkd, upS_len]; omega
theorem mkd_zero (k : Nat) (xs : List ByteArray) : mkd k xs 0 = xs := by simp [mkd, upS]
theorem mkd_all (k : Nat) (xs : List ByteArray) : mkd k xs xs.length = upS k xs.length := by simp [mkd]
theorem mkd_step (k : Nat) (xs : List ByteArray) (i : Nat) (h : i < xs.length) : (mkd k xs i).set i (mkT (k + i)) = mkd k xs (i + 1) := by
  rw [mkd, mkd, List.drop_eq_getElem_cons h, List.set_append_right _ _ (by rw [upS_len]; omega), upS_len]
  simp only [Nat.sub_self, List.set_cons_zero, upS, List.range_succ, List.map_append, List.map_cons, List.map_nil, List.append_assoc, List.singleton_append]
@[simp] theorem strs_set (l : List ByteArray) (i : Nat) (a : ByteArray) : (strs l).set i (.sc (.string a)) = strs (l.set i a) := by simp [strs, List.map_set]
theorem c_laws_markT (k : Nat) (h : k ≠ 0) (h1 : k ≤ 1000000000000) : ACall Try.prog 85 [int k] [.x] [.v (.sc (.string (mkT k)))] := c_laws_markText k h h1
theorem c_laws_markStringS (xs : List ByteArray) (k : Nat) (h : xs.length ≤ 1048576) (h1 : 0 < k) (h2 : k ≤ 100000000) : ACall Try.prog 47 [.v (.sl false 1 (strs xs)), int k] [.v (.sl false 1 (strs (upS k xs.length))), .x] [int ((k + xs.length : Nat) : Int)] := by
  refine ACall.of (N := 20) tok Try.func47 rfl rfl rfl (by simp) ?_
  repeat' (first | with_reducible refine OutOK.done ?_ | refine thenQ_n ?_ | refine thenQ_r ?_ | refine thenQ_e ?_ | refine AW.seq ?_ | refine AW.reg tok (by simp [*]; rfl) ?_ | refine AW.ifB (by simp [*]; rfl) ?_ | refine IfG.t ?_ | refine IfG.f ?_ | (refine IfG.p (fun hg => ?_) (fun hg => ?_) <;> (try (have hg' := hg; simp at hg'))) | (refine IfG.n (fun hg => ?_) (fun hg => ?_) <;> (try (have hg' := hg; simp at hg'))) | (refine OutOK.gateP (fun hg => ?_) (fun hg => ?_) <;> (try (have hg' := hg; simp at hg'))) | (refine OutOK.gateN (fun hg => ?_) (fun hg => ?_) <;> (try (have hg' := hg; simp at hg'))) | (refine IfG.g (fun hg => ?_) (fun hg => ?_) <;> (try (have hg' := hg; simp at hg'))) | (refine OutOK.gate (fun hg => ?_) (fun hg => ?_) <;> (try (have hg' := hg; simp at hg'))) | refine OutOK.run (by simp [*]; rfl) ?_ | refine AW.ret ?_ | refine AW.skip ?_ | refine AW.exit ?_ | refine fin_r ?_ | refine fin_n ?_ | refine AW.block ?_ | refine blockQ_n ?_ | refine blockQ_r ?_ | refine blockQ_e ?_ | refine blockQ_o rfl ?_)
  refine AW.loopL (fun i => i ≤ xs.length) (fun i => [(0, .rf 100000000 []), (1, .c (.sc (.int .i64 ((k + i : Nat) : Int)))), (5, .c (.sc (.int .i64 (i : Int))))]) (fun i => [(100000000, .sv (.sl false 1 (strs (mkd k xs i))))]) (fun i => xs.length - i) 0 (Nat.zero_le _) ⟨by simp, by simp [mkd_zero], by simp⟩ ?_
  intro i hi
  rcases Nat.lt_or_ge i xs.length with hl | hl
  · have e1 : wrap64 ((i : Int) + 1) = ((i + 1 : Nat) : Int) := by rw [w64 (by omega) (by omega)]; omega
    have hd := mkd_step k xs i hl
    have hlm : i < (mkd k xs i).length := by rw [mkd_len k xs i hi]; exact hl
    obtain ⟨K, hK⟩ : ∃ K, K = k + i := ⟨_, rfl⟩
    rw [← hK] at hd ⊢
    have e2 : wrap64 ((K : Int) + 1) = ((K + 1 : Nat) : Int) := by rw [w64 (by clear e1; omega) (by clear e1; omega)]; clear e1; omega
    have ct := c_laws_markT K (by omega) (by clear e1 e2; omega)
    have hK' : Hd (K + 1 = k + (i + 1)) := by rw [Hd, hK]; rfl
    clear hK
    generalize mkT K = T at *
    generalize hM : mkd k xs i = M at *
    generalize hM2 : mkd k xs (i + 1) = M2 at *
    replace hd : Hd _ := hd
    have hM2' : Hd _ := hM2
    clear hM hM2
    repeat' (first | with_reducible refine OutOK.done ?_ | refine thenQ_n ?_ | refine thenQ_r ?_ | refine thenQ_e ?_ | refine AW.seq ?_ | refine AW.reg tok (by simp [*]; rfl) ?_ | refine AW.ifB (by simp [*]; rfl) ?_ | refine IfG.t ?_ | refine IfG.f ?_ | (refine IfG.p (fun hg => ?_) (fun hg => ?_) <;> (try (have hg' := hg; simp at hg'))) | (refine IfG.n (fun hg => ?_) (fun hg => ?_) <;> (try (have hg' := hg; simp at hg'))) | (refine OutOK.gateP (fun hg => ?_) (fun hg => ?_) <;> (try (have hg' := hg; simp at hg'))) | (refine OutOK.gateN (fun hg => ?_) (fun hg => ?_) <;> (try (have hg' := hg; simp at hg'))) | (refine IfG.g (fun hg => ?_) (fun hg => ?_) <;> (try (have hg' := hg; simp at hg'))) | (refine OutOK.gate (fun hg => ?_) (fun hg => ?_) <;> (try (have hg' := hg; simp at hg'))) | (refine OutOK.callF [] (by simp [*]; rfl) (by simp [*]; rfl) (by simp [*]; rfl) hb85 (by apply ct <;> first | assumption | exact Hd.out (by assumption) | ((try (clear e0)); (try (clear e1)); (try (clear e2)); (try (clear e3)); (try (clear e4)); (try (clear e5)); (try (clear e6)); (try (clear e7)); (try (clear e8)); (try (clear e9)); (try (clear e10)); (try (clear e11)); omega)) ⟨by simp [*], by simp [*], by simp [*], by simp [*], by simp [*]⟩ (by simp [*]) (by simp [*]; rfl) ?_) | refine OutOK.run (by simp [*]; rfl) ?_ | refine AW.ret ?_ | refine AW.skip ?_ | refine AW.exit ?_ | refine fin_r ?_ | refine fin_n ?_ | refine AW.block ?_ | refine blockQ_n ?_ | refine blockQ_r ?_ | refine blockQ_e ?_ | refine blockQ_o rfl ?_)
    exact ⟨i + 1, hl, ⟨by simp [← hK'.out], by simp [hd.out, hM2'.out], by simp⟩, by ((try (clear e0)); (try (clear e1)); (try (clear e2)); (try (clear e3)); (try (clear e4)); (try (clear e5)); (try (clear e6)); (try (clear e7)); (try (clear e8)); (try (clear e9)); (try (clear e10)); (try (clear e11)); omega)⟩
  · have hx : i = xs.length := by omega
    subst hx
    rw [mkd_all]
    have hul := upS_len k xs.length
    generalize upS k xs.length = U at *
    have hul' : ¬ xs.length < U.length := by omega
    repeat' (first | with_reducible refine OutOK.done ?_ | refine thenQ_n ?_ | refine thenQ_r ?_ | refine thenQ_e ?_ | refine AW.seq ?_ | refine AW.reg tok (by simp [*]; rfl) ?_ | refine AW.ifB (by simp [*]; rfl) ?_ | refine IfG.t ?_ | refine IfG.f ?_ | (refine IfG.p (fun hg => ?_) (fun hg => ?_) <;> (try (have hg' := hg; simp at hg'))) | (refine IfG.n (fun hg => ?_) (fun hg => ?_) <;> (try (have hg' := hg; simp at hg'))) | (refine OutOK.gateP (fun hg => ?_) (fun hg => ?_) <;> (try (have hg' := hg; simp at hg'))) | (refine OutOK.gateN (fun hg => ?_) (fun hg => ?_) <;> (try (have hg' := hg; simp at hg'))) | (refine IfG.g (fun hg => ?_) (fun hg => ?_) <;> (try (have hg' := hg; simp at hg'))) | (refine OutOK.gate (fun hg => ?_) (fun hg => ?_) <;> (try (have hg' := hg; simp at hg'))) | refine OutOK.run (by simp [*]; rfl) ?_ | refine AW.ret ?_ | refine AW.skip ?_ | refine AW.exit ?_ | refine fin_r ?_ | refine fin_n ?_ | refine AW.block ?_ | refine blockQ_n ?_ | refine blockQ_r ?_ | refine blockQ_e ?_ | refine blockQ_o rfl ?_)
    simp [Try.f47]
theorem c_laws_heldStringS (n k : Nat) (h : n ≤ 1048576) (h1 : 0 < k) (h2 : k ≤ 100000000) : ACall Try.prog 48 [.v (.sl true 1 (strs (upS k n))), int k] [.x, .x] [int ((k + n : Nat) : Int)] := by
  have hul := upS_len k n
  have hg : Hd (∀ i (hi : i < (upS k n).length), (upS k n)[i] = mkT (k + i)) := by intro i hi; simp [upS]
  generalize upS k n = U at *
  subst hul
  refine ACall.of (N := 22) tok Try.func48 rfl rfl rfl (by simp) ?_
  repeat' (first | with_reducible refine OutOK.done ?_ | refine thenQ_n ?_ | refine thenQ_r ?_ | refine thenQ_e ?_ | refine AW.seq ?_ | refine AW.dreg tok mixed [5]  [(0, false), (1, false), (2, false), (4, false), (3, false), (5, true), (6, false)] (by decide +kernel) rfl (by simp [*]; rfl) ?_ | refine AW.reg tok (by simp [*]; rfl) ?_ | refine AW.ifB (by simp [*]; rfl) ?_ | refine IfG.t ?_ | refine IfG.f ?_ | (refine IfG.p (fun hg => ?_) (fun hg => ?_) <;> (try (have hg' := hg; simp at hg'))) | (refine IfG.n (fun hg => ?_) (fun hg => ?_) <;> (try (have hg' := hg; simp at hg'))) | (refine OutOK.gateP (fun hg => ?_) (fun hg => ?_) <;> (try (have hg' := hg; simp at hg'))) | (refine OutOK.gateN (fun hg => ?_) (fun hg => ?_) <;> (try (have hg' := hg; simp at hg'))) | (refine IfG.g (fun hg => ?_) (fun hg => ?_) <;> (try (have hg' := hg; simp at hg'))) | (refine OutOK.gate (fun hg => ?_) (fun hg => ?_) <;> (try (have hg' := hg; simp at hg'))) | refine OutOK.run (by simp [*]; rfl) ?_ | refine AW.ret ?_ | refine AW.skip ?_ | refine AW.exit ?_ | refine fin_r ?_ | refine fin_n ?_ | refine AW.block ?_ | refine blockQ_n ?_ | refine blockQ_r ?_ | refine blockQ_e ?_ | refine blockQ_o rfl ?_)
  refine AW.loopL (fun i => i ≤ U.length) (fun i => [(0, .c (.sl true 1 (strs U))), (1, .c (.sc (.int .i64 ((k + i : Nat) : Int)))), (5, .c (.sc (.int .i64 (i : Int))))]) (fun i => []) (fun i => U.length - i) 0 (Nat.zero_le _) ⟨by simp, by simp, by simp⟩ ?_
  intro i hi
  rcases Nat.lt_or_ge i U.length with hl | hl
  · have e1 : wrap64 ((i : Int) + 1) = ((i + 1 : Nat) : Int) := by rw [w64 (by omega) (by omega)]; omega
    obtain ⟨K, hK⟩ : ∃ K, K = k + i := ⟨_, rfl⟩
    have e3 : U[i] = mkT K := by rw [hK]; exact hg.out i hl
    rw [← hK]
    have e2 : wrap64 ((K : Int) + 1) = ((K + 1 : Nat) : Int) := by rw [w64 (by clear e1; omega) (by clear e1; omega)]; clear e1; omega
    have ct := c_laws_markT K (by omega) (by clear e1 e2; omega)
    have hK' : Hd (K + 1 = k + (i + 1)) := by rw [Hd, hK]; rfl
    clear hK
    generalize mkT K = T at *
    repeat' (first | with_reducible refine OutOK.done ?_ | refine thenQ_n ?_ | refine thenQ_r ?_ | refine thenQ_e ?_ | refine AW.seq ?_ | refine AW.dreg tok mixed [5]  [(0, false), (1, false), (2, false), (4, false), (3, false), (5, true), (6, false)] (by decide +kernel) rfl (by simp [*]; rfl) ?_ | refine AW.reg tok (by simp [*]; rfl) ?_ | refine AW.ifB (by simp [*]; rfl) ?_ | refine IfG.t ?_ | refine IfG.f ?_ | (refine IfG.p (fun hg => ?_) (fun hg => ?_) <;> (try (have hg' := hg; simp at hg'))) | (refine IfG.n (fun hg => ?_) (fun hg => ?_) <;> (try (have hg' := hg; simp at hg'))) | (refine OutOK.gateP (fun hg => ?_) (fun hg => ?_) <;> (try (have hg' := hg; simp at hg'))) | (refine OutOK.gateN (fun hg => ?_) (fun hg => ?_) <;> (try (have hg' := hg; simp at hg'))) | (refine IfG.g (fun hg => ?_) (fun hg => ?_) <;> (try (have hg' := hg; simp at hg'))) | (refine OutOK.gate (fun hg => ?_) (fun hg => ?_) <;> (try (have hg' := hg; simp at hg'))) | (refine OutOK.callF [] (by simp [*]; rfl) (by simp [*]; rfl) (by simp [*]; rfl) hb85 (by apply ct <;> first | assumption | exact Hd.out (by assumption) | ((try (clear e0)); (try (clear e1)); (try (clear e2)); (try (clear e3)); (try (clear e4)); (try (clear e5)); (try (clear e6)); (try (clear e7)); (try (clear e8)); (try (clear e9)); (try (clear e10)); (try (clear e11)); omega)) ⟨by simp [*], by simp [*], by simp [*], by simp [*], by simp [*]⟩ (by simp [*]) (by simp [*]; rfl) ?_) | refine OutOK.run (by simp [*]; rfl) ?_ | refine AW.ret ?_ | refine AW.skip ?_ | refine AW.exit ?_ | refine fin_r ?_ | refine fin_n ?_ | refine AW.block ?_ | refine blockQ_n ?_ | refine blockQ_r ?_ | refine blockQ_e ?_ | refine blockQ_o rfl ?_)
    exact ⟨i + 1, hl, ⟨by simp [← hK'.out], by simp, by simp⟩, by ((try (clear e0)); (try (clear e1)); (try (clear e2)); (try (clear e3)); (try (clear e4)); (try (clear e5)); (try (clear e6)); (try (clear e7)); (try (clear e8)); (try (clear e9)); (try (clear e10)); (try (clear e11)); omega)⟩
  · have hx : i = U.length := by omega
    subst hx
    repeat' (first | with_reducible refine OutOK.done ?_ | refine thenQ_n ?_ | refine thenQ_r ?_ | refine thenQ_e ?_ | refine AW.seq ?_ | refine AW.dreg tok mixed [5]  [(0, false), (1, false), (2, false), (4, false), (3, false), (5, true), (6, false)] (by decide +kernel) rfl (by simp [*]; rfl) ?_ | refine AW.reg tok (by simp [*]; rfl) ?_ | refine AW.ifB (by simp [*]; rfl) ?_ | refine IfG.t ?_ | refine IfG.f ?_ | (refine IfG.p (fun hg => ?_) (fun hg => ?_) <;> (try (have hg' := hg; simp at hg'))) | (refine IfG.n (fun hg => ?_) (fun hg => ?_) <;> (try (have hg' := hg; simp at hg'))) | (refine OutOK.gateP (fun hg => ?_) (fun hg => ?_) <;> (try (have hg' := hg; simp at hg'))) | (refine OutOK.gateN (fun hg => ?_) (fun hg => ?_) <;> (try (have hg' := hg; simp at hg'))) | (refine IfG.g (fun hg => ?_) (fun hg => ?_) <;> (try (have hg' := hg; simp at hg'))) | (refine OutOK.gate (fun hg => ?_) (fun hg => ?_) <;> (try (have hg' := hg; simp at hg'))) | refine OutOK.run (by simp [*]; rfl) ?_ | refine AW.ret ?_ | refine AW.skip ?_ | refine AW.exit ?_ | refine fin_r ?_ | refine fin_n ?_ | refine AW.block ?_ | refine blockQ_n ?_ | refine blockQ_r ?_ | refine blockQ_e ?_ | refine blockQ_o rfl ?_)
    simp [Try.f48]
end Go.Proofs.Ytbofobjofngoeaa.EngS


set_option linter.unusedSimpArgs false
set_option linter.unusedVariables false
set_option maxHeartbeats 4000000
set_option maxRecDepth 100000
namespace Go.Proofs.Ytbofobjofngoeaa.EngS
open Go Go.Proofs Go.Eng Go.RowKit
attribute [local simp] optO sliceV
end Go.Proofs.Ytbofobjofngoeaa.EngS


set_option linter.unusedSimpArgs false
set_option linter.unusedVariables false
set_option maxHeartbeats 4000000
set_option maxRecDepth 100000
namespace Go.Proofs.Ytbofobjofngoeaa.EngS
open Go Go.Proofs Go.Eng Go.RowKit
attribute [local simp] optO sliceV
end Go.Proofs.Ytbofobjofngoeaa.EngS


set_option linter.unusedSimpArgs false
set_option linter.unusedVariables false
set_option maxHeartbeats 4000000
set_option maxRecDepth 10000
namespace Go.Proofs.Ytbofobjofngoeaa.EngS
open Go Go.Proofs Go.Eng Go.RowKit
end Go.Proofs.Ytbofobjofngoeaa.EngS


set_option linter.unusedSimpArgs false
set_option linter.unusedVariables false
set_option maxHeartbeats 4000000
set_option maxRecDepth 10000
namespace Go.Proofs.Ytbofobjofngoeaa.EngS
open Go Go.Proofs Go.Eng Go.RowKit
def gvn (l : List Smp) (i : Nat) : List Int := (List.range (l.length + 1)).map fun (p : Nat) => givI l p i
@[simp] theorem gvn_len (l i) : (gvn l i).length = l.length + 1 := by simp [gvn]
theorem gvn_zero (l) : gvn l 0 = List.replicate (l.length + 1) 0 := by
  apply List.ext_getElem
  · simp
  · intro j h1 h2; simp only [gvn, List.getElem_map, List.getElem_range, givI_zero, List.getElem_replicate]
end Go.Proofs.Ytbofobjofngoeaa.EngS


set_option linter.unusedSimpArgs false
set_option linter.unusedVariables false
set_option maxHeartbeats 4000000
set_option maxRecDepth 100000
namespace Go.Proofs.Ytbofobjofngoeaa.EngS
open Go Go.Proofs Go.Eng Go.RowKit
end Go.Proofs.Ytbofobjofngoeaa.EngS


set_option linter.unusedSimpArgs false
set_option linter.unusedVariables false
set_option maxHeartbeats 4000000
set_option maxRecDepth 100000
namespace Go.Proofs.Ytbofobjofngoeaa.EngS
open Go Go.Proofs Go.Eng Go.RowKit
def hasI (o : List Int) (i : Nat) : Bool := o.any fun x => decide (x = (i : Int))
def frB (l : List Edt) (o : List Int) (i k : Nat) : Bool := !(hasI o i) && (List.range k).all fun j => hasI o j || !(precE (l[j]?.getD default) (l[i]?.getD default))
def fre (l : List Edt) (o : List Int) (i : Nat) : Bool := frB l o i l.length
def nxtI (l : List Edt) (o : List Int) : Nat := (List.range l.length).findIdx (fre l o)
def ordL (l : List Edt) : Nat → List Int
  | 0 => []
  | q + 1 => ordL l q ++ [(nxtI l (ordL l q) : Int)]
@[simp] theorem ordL_len (l q) : (ordL l q).length = q := by
  induction q with
  | zero => rfl
  | succ q ih => simp [ordL, ih]
def bls (xs : List Bool) : List PV := xs.map fun x => .sc (.bool x)
@[simp] theorem bls_len (xs) : (bls xs).length = xs.length := by simp [bls]
@[simp] theorem bls_get (xs : List Bool) (i : Nat) : (bls xs)[i]? = (xs[i]?).map fun x => .sc (.bool x) := by simp [bls]
@[simp] theorem bls_at (xs : List Bool) (i : Nat) (h : i < (bls xs).length) : (bls xs)[i] = .sc (.bool (xs[i]'(by simpa using h))) := by simp [bls]
@[simp] theorem bls_frz (xs) : PV.frzs (bls xs) = bls xs := by simp [bls]
@[simp] theorem rep_bls (n : Nat) (x : Bool) : List.replicate n (PV.sc (.bool x)) = bls (List.replicate n x) := by simp [bls]
@[simp] theorem bls_set (xs : List Bool) (i : Nat) (x : Bool) : (bls xs).set i (.sc (.bool x)) = bls (xs.set i x) := by simp [bls, List.map_set]
@[simp] theorem bls_nofz (xs : List Bool) : PV.nofzs (bls xs) = true := by
  induction xs with
  | nil => rfl
  | cons x xs ih => simpa [bls] using ih
@[simp] theorem bls_coks (xs : List Bool) : PV.coks (bls xs) = true := by
  induction xs with
  | nil => rfl
  | cons x xs ih => simpa [bls] using ih
def dnL (l : List Edt) (o : List Int) : List Bool := (List.range l.length).map (hasI o)
@[simp] theorem dnL_len (l o) : (dnL l o).length = l.length := by simp [dnL]
@[simp] theorem dnL_at (l : List Edt) (o : List Int) (i : Nat) (h : i < (dnL l o).length) : (dnL l o)[i] = hasI o i := by simp [dnL]
theorem dnL_nil (l : List Edt) : dnL l [] = List.replicate l.length false := by
  apply List.ext_getElem
  · simp
  · intro j h1 h2; simp [hasI]
end Go.Proofs.Ytbofobjofngoeaa.EngS


set_option linter.unusedSimpArgs false
set_option linter.unusedVariables false
set_option maxHeartbeats 4000000
set_option maxRecDepth 100000
namespace Go.Proofs.Ytbofobjofngoeaa.EngS
open Go Go.Proofs Go.Eng Go.RowKit
end Go.Proofs.Ytbofobjofngoeaa.EngS


set_option linter.unusedSimpArgs false
set_option linter.unusedVariables false
set_option maxHeartbeats 4000000
set_option maxRecDepth 100000
namespace Go.Proofs.Ytbofobjofngoeaa.EngS
open Go Go.Proofs Go.Eng Go.RowKit
end Go.Proofs.Ytbofobjofngoeaa.EngS


set_option linter.unusedSimpArgs false
set_option linter.unusedVariables false
set_option maxHeartbeats 4000000
set_option maxRecDepth 100000
namespace Go.Proofs.Ytbofobjofngoeaa.EngS
open Go Go.Proofs Go.Eng Go.RowKit
attribute [local simp] optO sliceV
def JkE (t : PV) : Prop := ∃ a b c d e, c.isAg = false ∧ t = .ag [.sc (.int .i64 a), .sc (.int .i64 b), c, .sc (.string d), .sc (.string e)]
structure DInv (l : List Edt) (p : Edt → Bool) (j : Nat) (M : List PV) : Prop where
  jl : j ≤ l.length
  len : M.length = l.length
  lt : ((l.take j).filter fun x => !p x).length < j
  kept : ∀ m (h : m < ((l.take j).filter fun x => !p x).length), M[m]? = some (.ag (edtC false ((l.take j).filter fun x => !p x)[m]))
  jk : ∀ m, ((l.take j).filter fun x => !p x).length ≤ m → m < j → ∃ t, M[m]? = some t ∧ JkE t
  rest : ∀ m (h : m < l.length), j ≤ m → M[m]? = some (.ag (edtC false l[m]))
theorem filt_yes {l : List Edt} {p : Edt → Bool} {j : Nat} (h : j < l.length) (hp : p l[j] = true) : (l.take (j + 1)).filter (fun x => !p x) = (l.take j).filter (fun x => !p x) := by
  rw [List.take_succ_eq_append_getElem h, List.filter_append]; simp [hp]
abbrev jkX (x : Edt) : PV := .ag [.sc (.int .i64 x.tm), .sc (.int .i64 x.ct), .xx, .sc (.string x.it), .sc (.string x.tx)]
theorem jkX_ok (x : Edt) : JkE (jkX x) := ⟨x.tm, x.ct, .xx, x.it, x.tx, rfl, rfl⟩
theorem DInv.skip {l : List Edt} {p : Edt → Bool} {j : Nat} {M : List PV} (h : DInv l p j M) (hj : j < l.length) (hp : p l[j] = true) : DInv l p (j + 1) (M.set j (jkX l[j])) := by
  have hf := filt_yes hj hp
  refine ⟨hj, by rw [List.length_set]; exact h.len, by rw [hf]; have := h.lt; omega, ?_, ?_, ?_⟩
  · intro m hm
    rw [hf] at hm
    have := h.lt
    rw [List.getElem?_set_ne (by omega)]
    simp only [hf]
    exact h.kept m hm
  · intro m h1 h2
    rw [hf] at h1
    rcases Nat.lt_succ_iff_lt_or_eq.1 h2 with h3 | rfl
    · rw [List.getElem?_set_ne (by omega)]; exact h.jk m h1 h3
    · exact ⟨_, List.getElem?_set_self (by rw [h.len]; exact hj), jkX_ok _⟩
  · intro m hm h1
    rw [List.getElem?_set_ne (by omega)]; exact h.rest m hm (by omega)
theorem DInv.fin {l : List Edt} {p : Edt → Bool} {M : List PV} (h : DInv l p l.length M) (R : List PV) : (M.take ((l.filter fun x => !p x).length) ++ R).take ((l.filter fun x => !p x).length) = edts false (l.filter fun x => !p x) := by
  have hk := h.kept
  have hlt := h.lt
  simp only [List.take_length] at hk hlt
  apply List.ext_getElem?
  intro m
  rw [List.getElem?_take]
  split
  · rename_i hm
    rw [List.getElem?_append_left (by simp [h.len]; omega), List.getElem?_take, if_pos hm, hk m hm, els_get, List.getElem?_eq_getElem hm]; rfl
  · rename_i hm
    rw [List.getElem?_eq_none (by simp; omega)]
end Go.Proofs.Ytbofobjofngoeaa.EngS


set_option linter.unusedSimpArgs false
set_option linter.unusedVariables false
set_option maxHeartbeats 4000000
set_option maxRecDepth 100000
namespace Go.Proofs.Ytbofobjofngoeaa.EngS
open Go Go.Proofs Go.Eng Go.RowKit
end Go.Proofs.Ytbofobjofngoeaa.EngS


set_option linter.all false
namespace Go.Eng
open Go Go.Proofs Go.Shelf Go.RowKit
variable {P : Program} {ρ : Ren}
theorem GW.cell {P : Program} {w : World} {Z : Nat → Prop} (h : GW P w Z) {a : Nat} (hf : ∀ w : World, w.ShapedOpen P → ∃ m : Int, w.cell? ⟨a, 0, none⟩ = some (.int .i64 m)) : ∃ m : Int, w.cell? ⟨a, 0, none⟩ = some (.int .i64 m) := by
  obtain ⟨W0, h0, h1⟩ := h
  obtain ⟨m, hm⟩ := hf W0 h0
  refine ⟨m, ?_⟩
  by_cases hb : a < W0.heap.size
  · have := (h1 a hb).2
    simp only [World.cell?] at hm ⊢
    rw [this]; exact hm
  · simp only [World.cell?] at hm
    rw [Array.getElem?_eq_none (by omega)] at hm
    simp at hm
end Go.Eng

set_option linter.all false
namespace Go.Eng
open Go Go.Proofs Go.Shelf Go.RowKit Go.Sort
variable {P : Program} {ρ : Ren} {β : Type}
structure Elt (β : Type) where
  x : β
  vs : List Value
  own : Nat → Prop
end Go.Eng

set_option linter.all false
namespace Go.Eng
open Go Go.Proofs Go.Shelf Go.RowKit Go.Sort
variable {P : Program} {ρ : Ren} {β : Type}
end Go.Eng

set_option linter.unusedSimpArgs false
set_option linter.unusedVariables false
set_option maxHeartbeats 4000000
set_option maxRecDepth 100000
namespace Go.Proofs.Ytbofobjofngoeaa.EngS
open Go Go.Proofs Go.Eng Go.RowKit
theorem cmpE_lt (a b : Edt) : cmpE a b < 0 ↔ a.tm < b.tm ∨ (a.tm = b.tm ∧ a.ct < b.ct) := by
  simp only [cmpE, cmpI]
  repeat' split
  all_goals omega
end Go.Proofs.Ytbofobjofngoeaa.EngS


set_option linter.unusedSimpArgs false
set_option linter.unusedVariables false
set_option maxHeartbeats 4000000
set_option maxRecDepth 100000
namespace Go.Proofs.Ytbofobjofngoeaa.EngS
open Go Go.Proofs Go.Eng Go.RowKit
end Go.Proofs.Ytbofobjofngoeaa.EngS


set_option linter.unusedSimpArgs false
set_option linter.unusedVariables false
set_option maxHeartbeats 4000000
set_option maxRecDepth 100000
namespace Go.Proofs.Ytbofobjofngoeaa.EngS
open Go Go.Proofs Go.Eng Go.RowKit
end Go.Proofs.Ytbofobjofngoeaa.EngS


set_option linter.unusedSimpArgs false
set_option linter.unusedVariables false
set_option maxHeartbeats 4000000
set_option maxRecDepth 100000
namespace Go.Proofs.Ytbofobjofngoeaa.EngS
open Go Go.Proofs Go.Eng Go.RowKit
end Go.Proofs.Ytbofobjofngoeaa.EngS


set_option linter.unusedSimpArgs false
set_option linter.unusedVariables false
set_option maxHeartbeats 4000000
set_option maxRecDepth 100000
namespace Go.Proofs.Ytbofobjofngoeaa.EngS
open Go Go.Proofs Go.Eng Go.RowKit
def SS (l : List Edt) : Prop := l.Pairwise (fun x y => cmpE x y < 0)
theorem SS.two {l : List Edt} (h : SS l) : l.Pairwise (fun x y => ¬ cmpE y x < 0) :=
  List.Pairwise.imp (fun {x y} h => by rw [cmpE_lt] at *; omega) h
theorem SS.one {l : List Edt} (h : SS l) : ∀ x ∈ l, ∀ y ∈ l, x.tm = y.tm → x.ct = y.ct → x = y := by
  induction l with
  | nil => intro x hx; cases hx
  | cons a r ih =>
    obtain ⟨h1, h2⟩ := List.pairwise_cons.1 h
    intro x hx y hy e1 e2
    rcases List.mem_cons.1 hx with hx | hx <;> rcases List.mem_cons.1 hy with hy | hy
    · rw [hx, hy]
    · have := (cmpE_lt _ _).1 (h1 y hy); rw [hx] at e1 e2; omega
    · have := (cmpE_lt _ _).1 (h1 x hx); rw [hy] at e1 e2; omega
    · exact ih h2 x hx y hy e1 e2
end Go.Proofs.Ytbofobjofngoeaa.EngS


set_option linter.unusedSimpArgs false
set_option linter.unusedVariables false
set_option maxHeartbeats 4000000
set_option maxRecDepth 100000
namespace Go.Proofs.Ytbofobjofngoeaa.EngS
open Go Go.Proofs Go.Eng Go.RowKit
end Go.Proofs.Ytbofobjofngoeaa.EngS


set_option linter.unusedSimpArgs false
set_option linter.unusedVariables false
set_option maxHeartbeats 4000000
set_option maxRecDepth 100000
namespace Go.Proofs.Ytbofobjofngoeaa.EngS
open Go Go.Proofs Go.Eng Go.RowKit
end Go.Proofs.Ytbofobjofngoeaa.EngS


set_option linter.unusedSimpArgs false
set_option linter.unusedVariables false
set_option maxHeartbeats 4000000
set_option maxRecDepth 100000
namespace Go.Proofs.Ytbofobjofngoeaa.EngS
open Go Go.Proofs Go.Eng Go.RowKit
@[simp] theorem strs_nofz (xs : List ByteArray) : PV.nofzs (strs xs) = true := by
  induction xs with
  | nil => rfl
  | cons x r ih => simp [PV.nofzs, PV.nofz, ih]
theorem cnfR_len {l : List Edt} {n : Int} : (cnfR l n).length ≤ 24 := by
  unfold cnfR
  split
  · rename_i h
    have := hist_len h
    have h2 := spO_len l l.length
    rw [ofBys_len]
    omega
  · simp
theorem law_FnExactConflictingItems (x : List EdtX) (n : Int) (hw : WfX x) (hn : (Lit.int .i64 n).wf = true) :
  ACall Try.prog 10 [.v (.sl true 5 (x.map fun x => PV.ag [PV.sc (.int .i64 x.1), PV.sc (.int .i64 x.2.1), PV.sl true 1 (x.2.2.1.map (fun n => PV.sc (.int .i64 n))), PV.sc (.string x.2.2.2.1), PV.sc (.string x.2.2.2.2)])), int n] [.x, .x] [boo true] := by
  rw [edts_X]
  obtain ⟨h1, h2⟩ := hw.v
  clear hw hn
  generalize x.map edtX = l at *
  refine ACallX.one ?_
  have cz := x_laws_szEditS l 1048576 h1 h2 (by decide) (by decide)
  clear h2
  refine ACallX.of (N := 101) tok Try.func10 rfl rfl rfl (by simp) ?_
  repeat' (first | with_reducible refine OutOK.done ?_ | refine thenQ_n ?_ | refine thenQ_r ?_ | refine thenQ_e ?_ | refine AW.seq ?_ | refine AW.reg tok (by simp [*]; rfl) ?_ | refine AW.ifB (by simp [*]; rfl) ?_ | refine IfG.t ?_ | refine IfG.f ?_ | (refine IfG.p (fun hg => ?_) (fun hg => ?_) <;> (try (have hg' := hg; simp at hg'))) | (refine IfG.n (fun hg => ?_) (fun hg => ?_) <;> (try (have hg' := hg; simp at hg'))) | (refine OutOK.gateP (fun hg => ?_) (fun hg => ?_) <;> (try (have hg' := hg; simp at hg'))) | (refine OutOK.gateN (fun hg => ?_) (fun hg => ?_) <;> (try (have hg' := hg; simp at hg'))) | (refine IfG.g (fun hg => ?_) (fun hg => ?_) <;> (try (have hg' := hg; simp at hg'))) | (refine OutOK.gate (fun hg => ?_) (fun hg => ?_) <;> (try (have hg' := hg; simp at hg'))) | refine OutOK.run (by simp [*]; rfl) ?_ | refine AW.ret ?_ | refine AW.skip ?_ | refine AW.exit ?_ | refine fin_r ?_ | refine fin_n ?_ | refine AW.block ?_ | refine blockQ_n ?_ | refine blockQ_r ?_ | refine blockQ_e ?_ | refine blockQ_o rfl ?_)
  refine OutOK.callX [] (by simp [*]; rfl) (by simp [*]; rfl) (by simp [*]; rfl) hb23 (by apply cz <;> first | assumption | exact Hd.out (by assumption) | ((try (clear e0)); (try (clear e1)); (try (clear e2)); (try (clear e3)); (try (clear e4)); (try (clear e5)); (try (clear e6)); (try (clear e7)); (try (clear e8)); (try (clear e9)); (try (clear e10)); (try (clear e11)); omega)) ⟨by simp [*], by simp [*], by simp [*]⟩ (by simp [*]) (fun x hx => ?_)
  obtain ⟨-, c2⟩ := hx
  clear cz
  rcases Int.lt_or_le x 0 with hz | hz
  · clear c2
    refine CallX.mk' ⟨by simp [*], by simp [*], by simp [*], by simp [*], by simp [*]⟩ (by simp [*]; rfl) ?_
    repeat' (first | with_reducible refine OutOK.done ?_ | refine thenQ_n ?_ | refine thenQ_r ?_ | refine thenQ_e ?_ | refine AW.seq ?_ | refine AW.reg tok (by simp [*]; rfl) ?_ | refine AW.ifB (by simp [*]; rfl) ?_ | refine IfG.t ?_ | refine IfG.f ?_ | (refine IfG.p (fun hg => ?_) (fun hg => ?_) <;> (try (have hg' := hg; simp at hg'))) | (refine IfG.n (fun hg => ?_) (fun hg => ?_) <;> (try (have hg' := hg; simp at hg'))) | (refine OutOK.gateP (fun hg => ?_) (fun hg => ?_) <;> (try (have hg' := hg; simp at hg'))) | (refine OutOK.gateN (fun hg => ?_) (fun hg => ?_) <;> (try (have hg' := hg; simp at hg'))) | (refine IfG.g (fun hg => ?_) (fun hg => ?_) <;> (try (have hg' := hg; simp at hg'))) | (refine OutOK.gate (fun hg => ?_) (fun hg => ?_) <;> (try (have hg' := hg; simp at hg'))) | refine OutOK.run (by simp [*]; rfl) ?_ | refine AW.ret ?_ | refine AW.skip ?_ | refine AW.exit ?_ | refine fin_r ?_ | refine fin_n ?_ | refine AW.block ?_ | refine blockQ_n ?_ | refine blockQ_r ?_ | refine blockQ_e ?_ | refine blockQ_o rfl ?_)
    exact ⟨(), trivial, by simp [Try.f10]⟩
  obtain ⟨l1, l2, l3⟩ := c2 hz
  have hz' : ¬ x < 0 := by omega
  have ct := c_laws_toEditS l l1 l2
  have c1 := c_spec_ConflictingItems l n l1 l2
  have c2' := c_impl_ConflictingItems l n l1 l2
  have cq := c_laws_eqEditS l (by omega) (fun e he => (l2 e he).w)
  have r1 := cnfR_len (l := l) (n := n)
  generalize hist l n = B at *
  generalize cnfR l n = R at *
  have cqR := c_laws_eqStringS R (by omega)
  have ke := c_laws_markEditS l 1 l1 l3 (by omega) (by omega)
  obtain ⟨m, hm⟩ : ∃ m : Nat, 1 + totE (lens l) = m := ⟨_, rfl⟩
  rw [hm] at ke
  have hm0' : ¬ (m : Int) < 0 := by omega
  have kR := c_laws_markStringS R 1 (by omega) (by omega) (by omega)
  have hR := c_laws_heldStringS R.length 1 (by omega) (by omega) (by omega)
  obtain ⟨mR, hmR⟩ : ∃ m : Nat, 1 + R.length = m := ⟨_, rfl⟩
  rw [hmR] at kR hR
  have hmR' : ¬ (mR : Int) < 0 := by omega
  clear hm hmR l3 l2 c2
  generalize upS 1 R.length = UP at *
  refine CallX.mk' ⟨by simp [*], by simp [*], by simp [*], by simp [*], by simp [*]⟩ (by simp [*]; rfl) ?_
  repeat' (first | with_reducible refine OutOK.done ?_ | refine thenQ_n ?_ | refine thenQ_r ?_ | refine thenQ_e ?_ | refine AW.seq ?_ | refine AW.reg tok (by simp [*]; rfl) ?_ | refine AW.ifB (by simp [*]; rfl) ?_ | refine IfG.t ?_ | refine IfG.f ?_ | (refine IfG.p (fun hg => ?_) (fun hg => ?_) <;> (try (have hg' := hg; simp at hg'))) | (refine IfG.n (fun hg => ?_) (fun hg => ?_) <;> (try (have hg' := hg; simp at hg'))) | (refine OutOK.gateP (fun hg => ?_) (fun hg => ?_) <;> (try (have hg' := hg; simp at hg'))) | (refine OutOK.gateN (fun hg => ?_) (fun hg => ?_) <;> (try (have hg' := hg; simp at hg'))) | (refine IfG.g (fun hg => ?_) (fun hg => ?_) <;> (try (have hg' := hg; simp at hg'))) | (refine OutOK.gate (fun hg => ?_) (fun hg => ?_) <;> (try (have hg' := hg; simp at hg'))) | (refine OutOK.callF [] (by simp [*]; rfl) (by simp [*]; rfl) (by simp [*]; rfl) hb25 (by apply ct <;> first | assumption | exact Hd.out (by assumption) | ((try (clear e0)); (try (clear e1)); (try (clear e2)); (try (clear e3)); (try (clear e4)); (try (clear e5)); (try (clear e6)); (try (clear e7)); (try (clear e8)); (try (clear e9)); (try (clear e10)); (try (clear e11)); omega)) ⟨by simp [*], by simp [*], by simp [*], by simp [*], by simp [*]⟩ (by simp [*]) (by simp [*]; rfl) ?_) | (refine OutOK.callF [] (by simp [*]; rfl) (by simp [*]; rfl) (by simp [*]; rfl) hb44 (by apply c1 <;> first | assumption | exact Hd.out (by assumption) | ((try (clear e0)); (try (clear e1)); (try (clear e2)); (try (clear e3)); (try (clear e4)); (try (clear e5)); (try (clear e6)); (try (clear e7)); (try (clear e8)); (try (clear e9)); (try (clear e10)); (try (clear e11)); omega)) ⟨by simp [*], by simp [*], by simp [*], by simp [*], by simp [*]⟩ (by simp [*]) (by simp [*]; rfl) ?_) | (refine OutOK.callF [] (by simp [*]; rfl) (by simp [*]; rfl) (by simp [*]; rfl) hb45 (by apply c2' <;> first | assumption | exact Hd.out (by assumption) | ((try (clear e0)); (try (clear e1)); (try (clear e2)); (try (clear e3)); (try (clear e4)); (try (clear e5)); (try (clear e6)); (try (clear e7)); (try (clear e8)); (try (clear e9)); (try (clear e10)); (try (clear e11)); omega)) ⟨by simp [*], by simp [*], by simp [*], by simp [*], by simp [*]⟩ (by simp [*]) (by simp [*]; rfl) ?_) | (refine OutOK.callF [] (by simp [*]; rfl) (by simp [*]; rfl) (by simp [*]; rfl) hb27 (by apply cq <;> first | assumption | exact Hd.out (by assumption) | ((try (clear e0)); (try (clear e1)); (try (clear e2)); (try (clear e3)); (try (clear e4)); (try (clear e5)); (try (clear e6)); (try (clear e7)); (try (clear e8)); (try (clear e9)); (try (clear e10)); (try (clear e11)); omega)) ⟨by simp [*], by simp [*], by simp [*], by simp [*], by simp [*]⟩ (by simp [*]) (by simp [*]; rfl) ?_) | (refine OutOK.callF [] (by simp [*]; rfl) (by simp [*]; rfl) (by simp [*]; rfl) hb46 (by apply cqR <;> first | assumption | exact Hd.out (by assumption) | ((try (clear e0)); (try (clear e1)); (try (clear e2)); (try (clear e3)); (try (clear e4)); (try (clear e5)); (try (clear e6)); (try (clear e7)); (try (clear e8)); (try (clear e9)); (try (clear e10)); (try (clear e11)); omega)) ⟨by simp [*], by simp [*], by simp [*], by simp [*], by simp [*]⟩ (by simp [*]) (by simp [*]; rfl) ?_) | (refine OutOK.callF [true, false] (by simp [*]; rfl) (by simp [*]; rfl) (by simp [*]; rfl) hb33 (by apply ke <;> first | assumption | exact Hd.out (by assumption) | ((try (clear e0)); (try (clear e1)); (try (clear e2)); (try (clear e3)); (try (clear e4)); (try (clear e5)); (try (clear e6)); (try (clear e7)); (try (clear e8)); (try (clear e9)); (try (clear e10)); (try (clear e11)); omega)) ⟨by simp [*], by simp [*], by simp [*], by simp [*], by simp [*]⟩ (by simp [*]) (by simp [*]; rfl) ?_) | (refine OutOK.callF [true, false] (by simp [*]; rfl) (by simp [*]; rfl) (by simp [*]; rfl) hb47 (by apply kR <;> first | assumption | exact Hd.out (by assumption) | ((try (clear e0)); (try (clear e1)); (try (clear e2)); (try (clear e3)); (try (clear e4)); (try (clear e5)); (try (clear e6)); (try (clear e7)); (try (clear e8)); (try (clear e9)); (try (clear e10)); (try (clear e11)); omega)) ⟨by simp [*], by simp [*], by simp [*], by simp [*], by simp [*]⟩ (by simp [*]) (by simp [*]; rfl) ?_) | (refine OutOK.callF [] (by simp [*]; rfl) (by simp [*]; rfl) (by simp [*]; rfl) hb48 (by apply hR <;> first | assumption | exact Hd.out (by assumption) | ((try (clear e0)); (try (clear e1)); (try (clear e2)); (try (clear e3)); (try (clear e4)); (try (clear e5)); (try (clear e6)); (try (clear e7)); (try (clear e8)); (try (clear e9)); (try (clear e10)); (try (clear e11)); omega)) ⟨by simp [*], by simp [*], by simp [*], by simp [*], by simp [*]⟩ (by simp [*]) (by simp [*]; rfl) ?_) | refine OutOK.run (by simp [*]; rfl) ?_ | refine AW.ret ?_ | refine AW.skip ?_ | refine AW.exit ?_ | refine fin_r ?_ | refine fin_n ?_ | refine AW.block ?_ | refine blockQ_n ?_ | refine blockQ_r ?_ | refine blockQ_e ?_ | refine blockQ_o rfl ?_)
  exact ⟨(), trivial, by simp [Try.f10]⟩
end Go.Proofs.Ytbofobjofngoeaa.EngS

