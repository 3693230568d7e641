-- Written by this session's texts and program for this claim. Lean checks it.
import Derived.Lib.Strings
import Derived.Test.YtbofobjofngoeaaVFnHistories5
set_option autoImplicit true
set_option relaxedAutoImplicit true
set_option linter.unusedSimpArgs false
set_option linter.unusedVariables false
set_option maxHeartbeats 4000000
set_option maxRecDepth 100000
namespace Go.Proofs.Ytbofobjofngoeaa.EngS
open Go Go.Proofs Go.Eng Go.RowKit
def HOW (l : List Edt) : Prop := ∀ e ∈ l, e.ck.length ≤ 4 ∧ e.it.size ≤ 1000 ∧ e.tx.size ≤ 1000
theorem HOK.w {N : Nat} {l : List Edt} (h : HOK N l) (hN : N ≤ 3) : HOW l := fun e he => ⟨by have := (h e he).1; omega, (h e he).2⟩
theorem HOW_set {l : List Edt} {i : Nat} {e : Edt} (h : HOW l) (he : e.ck.length ≤ 4 ∧ e.it.size ≤ 1000 ∧ e.tx.size ≤ 1000) : HOW (l.set i e) := fun x hx => by
  rcases List.mem_or_eq_of_mem_set hx with hx | rfl
  · exact h x hx
  · exact he
theorem HOW.b {l : List Edt} (h : HOW l) : ∀ e ∈ l, EdtB e := fun e he => ⟨by have := (h e he).1; omega, by have := (h e he).2.1; omega, by have := (h e he).2.2; omega⟩
theorem x_amongT (code : List Int) (a s : Int) (xs : List Int) (h0 : 0 ≤ a) (h1 : a ≤ 900000000000) (hc : code.length ≤ 9223372036854775807) (hb : BytesOK code) (hn : 1 < xs.length) (hn' : xs.length ≤ 1000000) (hq : ∀ y ∈ xs, 0 ≤ y ∧ y ≤ 4) :
    ACallX Try.prog 134 [.p (curP code a s), .v (.sl false 1 (ints xs))] (fun x : Int × Int × Int => a ≤ x.1 ∧ x.1 ≤ a + 2 ∧ (0 ≤ x.2.2 ∧ x.2.2 ≤ 4)) (fun x => [.p (curP code x.1 x.2.1), .x]) (fun x => [int x.2.2]) :=
  x_spec_l1Cur_among code a s xs (fun y => 0 ≤ y ∧ y ≤ 4) h0 h1 hc hb hn hn' hq
def anyP (a : Int) (x : Int × Int × List Edt × Int) : Prop := a ≤ x.1 ∧ x.1 ≤ a + 500 ∧ x.2.2.1.length ≤ 26 ∧ HOW x.2.2.1 ∧ 0 ≤ x.2.2.2 ∧ x.2.2.2 ≤ 4
theorem x_any (code : List Int) (a s : Int) (h0 : 0 ≤ a) (h1 : a ≤ 600000000000) (hc : code.length ≤ 9223372036854775807) (hb : BytesOK code) :
    ACallX Try.prog 105 [.p (curP code a s)] (anyP a) (fun x => [.p (curP code x.1 x.2.1)]) (fun x => [.v (.sl false 5 (edts false x.2.2.1)), int x.2.2.2]) := by
  refine ACallX.of (N := 104) tok Try.func105 rfl rfl rfl (by simp) ?_
  repeat' (first | with_reducible refine OutOK.done ?_ | refine thenQ_n ?_ | refine thenQ_r ?_ | refine thenQ_e ?_ | refine AW.seq ?_ | refine AW.dtreeJ tok mixed [] [(4, [1]), (6, [1])] (.chk [(0, false), (2, false), (3, false), (5, false), (1, false), (4, false)] [1] (.chk [(6, false)] [1] (.leaf [(7, false), (8, false)]))) (by decide +kernel) rfl (st2 := ?_) ?_ ?_ | with_reducible exact eqSt _ | with_reducible refine ForkQ.mk ?_ ?_ | with_reducible refine ChkQ.mk (by simp [*, watchB, WatchAll]) ?_ | refine OutT.chk (by simp [*]; rfl) ?_ | refine OutT.leaf (by simp [*]; rfl) ?_ | refine OutT.fork (by simp [*]; rfl) ?_ | refine AW.reg tok (by simp [*]; rfl) ?_ | refine AW.ifB (by simp [*]; rfl) ?_ | refine IfG.t ?_ | refine IfG.f ?_ | ((first | refine IfG.p (fun hg => ?_) (fun hg => ?_) | refine IfG.n (fun hg => ?_) (fun hg => ?_) | refine OutOK.gateP (fun hg => ?_) (fun hg => ?_) | refine OutOK.gateN (fun hg => ?_) (fun hg => ?_) | refine IfG.g (fun hg => ?_) (fun hg => ?_) | refine OutOK.gate (fun hg => ?_) (fun hg => ?_)) <;> (try (have hg' := hg; simp at hg'))) | refine OutOK.run (by simp [*]; rfl) ?_ | refine AW.ret ?_ | refine AW.skip ?_ | refine AW.exit ?_ | refine fin_r ?_ | refine fin_n ?_ | refine AW.block ?_ | refine blockQ_n ?_ | refine blockQ_r ?_ | refine blockQ_e ?_ | refine blockQ_o rfl ?_)
  refine OutOK.callX [] (by simp [*]; rfl) (by simp [*]; rfl) (by simp [*]; rfl) hb108 (by apply x_pickN4 <;> first | assumption | exact Hd.out (by assumption) | ((try clear e1); (try clear e2); omega)) ⟨by simp [*], by simp [*], by simp [*]⟩ (by simp [*]) (fun x hx => ?_)
  obtain ⟨a1, s1, k⟩ := x
  simp only at hx
  obtain ⟨p1, p2, p3⟩ := hx
  obtain ⟨N, hN1, hN, f1⟩ : ∃ N : Nat, 1 ≤ N ∧ N ≤ 3 ∧ wrap64 (1 + (k : Int)) = (N : Int) := ⟨1 + k, by ((try clear e1); (try clear e2); omega), by ((try clear e1); (try clear e2); omega), by rw [w64 (by ((try clear e1); (try clear e2); omega)) (by ((try clear e1); (try clear e2); omega))]; omega⟩
  have ch := fun (a s : Int) h0 h1 => x_spec_l1Cur_history code a s N hN1 hN h0 h1 hc hb
  have hN0 : 0 ≤ (N : Int) := by omega
  refine CallX.mk' ⟨by simp [*], by simp [*], by simp [*], by simp [*], by simp [*]⟩ (by simp [*]; rfl) ?_
  repeat' (first | with_reducible refine OutOK.done ?_ | refine thenQ_n ?_ | refine thenQ_r ?_ | refine thenQ_e ?_ | refine AW.seq ?_ | refine AW.dtreeJ tok mixed [] [(4, [1]), (6, [1])] (.chk [(0, false), (2, false), (3, false), (5, false), (1, false), (4, false)] [1] (.chk [(6, false)] [1] (.leaf [(7, false), (8, false)]))) (by decide +kernel) rfl (st2 := ?_) ?_ ?_ | with_reducible exact eqSt _ | with_reducible refine ForkQ.mk ?_ ?_ | with_reducible refine ChkQ.mk (by simp [*, watchB, WatchAll]) ?_ | refine OutT.chk (by simp [*]; rfl) ?_ | refine OutT.leaf (by simp [*]; rfl) ?_ | refine OutT.fork (by simp [*]; rfl) ?_ | refine AW.reg tok (by simp [*]; rfl) ?_ | refine AW.ifB (by simp [*]; rfl) ?_ | refine IfG.t ?_ | refine IfG.f ?_ | ((first | refine IfG.p (fun hg => ?_) (fun hg => ?_) | refine IfG.n (fun hg => ?_) (fun hg => ?_) | refine OutOK.gateP (fun hg => ?_) (fun hg => ?_) | refine OutOK.gateN (fun hg => ?_) (fun hg => ?_) | refine IfG.g (fun hg => ?_) (fun hg => ?_) | refine OutOK.gate (fun hg => ?_) (fun hg => ?_)) <;> (try (have hg' := hg; simp at hg'))) | refine OutOK.run (by simp [*]; rfl) ?_ | refine AW.ret ?_ | refine AW.skip ?_ | refine AW.exit ?_ | refine fin_r ?_ | refine fin_n ?_ | refine AW.block ?_ | refine blockQ_n ?_ | refine blockQ_r ?_ | refine blockQ_e ?_ | refine blockQ_o rfl ?_)
  refine OutOK.callX [] (by simp [*]; rfl) (by simp [*]; rfl) (by simp [*]; rfl) hb107 (by apply ch <;> first | assumption | exact Hd.out (by assumption) | ((try clear e1); (try clear e2); omega)) ⟨by simp [*], by simp [*], by simp [*]⟩ (by simp [*]) (fun x hx => ?_)
  obtain ⟨a2, s2, l⟩ := x
  simp only at hx
  obtain ⟨q1, q2, q3, q4⟩ := hx
  clear f1 ch p3
  replace q4 : Hd _ := q4
  rcases Nat.lt_or_ge 0 l.length with hl | hl
  case inr =>
    have hl0 : l = [] := List.length_eq_zero_iff.1 (by omega)
    subst hl0
    have ca := fun (a s : Int) h0 h1 => x_amongT code a s [(N : Int), (N : Int), 0, 4] h0 h1 hc hb (by simp) (by simp) (by simp; omega)
    simp only [ints, List.map_cons, List.map_nil] at ca
    refine CallX.mk' ⟨by simp [*], by simp [*], by simp [*], by simp [*], by simp [*]⟩ (by simp [*]; rfl) ?_
    repeat' (first | with_reducible refine OutOK.done ?_ | refine thenQ_n ?_ | refine thenQ_r ?_ | refine thenQ_e ?_ | refine AW.seq ?_ | refine AW.dtree tok mixed [] [(4, [1]), (6, [1])] (.chk [(0, false), (2, false), (3, false), (5, false), (1, false), (4, false)] [1] (.chk [(6, false)] [1] (.leaf [(7, false), (8, false)]))) (by decide +kernel) rfl ?_ | with_reducible exact eqSt _ | with_reducible refine ForkQ.mk ?_ ?_ | with_reducible refine ChkQ.mk (by simp [*, watchB, WatchAll]) ?_ | refine OutT.chk (by simp [*]; rfl) ?_ | refine OutT.leaf (by simp [*]; rfl) ?_ | refine OutT.fork (by simp [*]; rfl) ?_ | refine AW.reg tok (by simp [*]; rfl) ?_ | refine AW.ifB (by simp [*]; rfl) ?_ | refine IfG.t ?_ | refine IfG.f ?_ | ((first | refine IfG.p (fun hg => ?_) (fun hg => ?_) | refine IfG.n (fun hg => ?_) (fun hg => ?_) | refine OutOK.gateP (fun hg => ?_) (fun hg => ?_) | refine OutOK.gateN (fun hg => ?_) (fun hg => ?_) | refine IfG.g (fun hg => ?_) (fun hg => ?_) | refine OutOK.gate (fun hg => ?_) (fun hg => ?_)) <;> (try (have hg' := hg; simp at hg'))) | (refine OutOK.callX [false, true] (by simp [*]; rfl) (by simp [*]; rfl) (by simp [*]; rfl) hb134 (by apply ca <;> first | assumption | exact Hd.out (by assumption) | ((try clear e1); (try clear e2); omega)) ⟨by simp [*], by simp [*], by simp [*]⟩ (by simp [*]) (fun x hx => CallX.mk' ⟨by simp [*], by simp [*], by simp [*], by simp [*], by simp [*]⟩ (by simp [*]; rfl) ?_)) | refine OutOK.run (by simp [*]; rfl) ?_ | refine AW.ret ?_ | refine AW.skip ?_ | refine AW.exit ?_ | refine fin_r ?_ | refine fin_n ?_ | refine AW.block ?_ | refine blockQ_n ?_ | refine blockQ_r ?_ | refine blockQ_e ?_ | refine blockQ_o rfl ?_)
    obtain ⟨a3, s3, t⟩ := x
    simp only at hx
    obtain ⟨r1, r2, r3⟩ := hx
    exact ⟨(a3, s3, [], t), ⟨by simp only; ((try clear e1); (try clear e2); omega), by simp only; ((try clear e1); (try clear e2); omega), by simp, fun e he => by simp at he, by simp only; ((try clear e1); (try clear e2); omega), by simp only; ((try clear e1); (try clear e2); omega)⟩, by simp [Try.f105]⟩
  have hne : ¬ l = [] := by rintro rfl; simp at hl
  have cp := fun (a s : Int) h0 h1 => x_pickN4 code a s (l.length : Int) h0 h1 hc hb (by omega) (by omega)
  refine CallX.mk' ⟨by simp [*], by simp [*], by simp [*], by simp [*], by simp [*]⟩ (by simp [*]; rfl) ?_
  repeat' (first | with_reducible refine OutOK.done ?_ | refine thenQ_n ?_ | refine thenQ_r ?_ | refine thenQ_e ?_ | refine AW.seq ?_ | refine AW.dtreeJ tok mixed [] [(4, [1]), (6, [1])] (.chk [(0, false), (2, false), (3, false), (5, false), (1, false), (4, false)] [1] (.chk [(6, false)] [1] (.leaf [(7, false), (8, false)]))) (by decide +kernel) rfl (st2 := ?_) ?_ ?_ | with_reducible exact eqSt _ | with_reducible refine ForkQ.mk ?_ ?_ | with_reducible refine ChkQ.mk (by simp [*, watchB, WatchAll]) ?_ | refine OutT.chk (by simp [*]; rfl) ?_ | refine OutT.leaf (by simp [*]; rfl) ?_ | refine OutT.fork (by simp [*]; rfl) ?_ | refine AW.reg tok (by simp [*]; rfl) ?_ | refine AW.ifB (by simp [*]; rfl) ?_ | refine IfG.t ?_ | refine IfG.f ?_ | ((first | refine IfG.p (fun hg => ?_) (fun hg => ?_) | refine IfG.n (fun hg => ?_) (fun hg => ?_) | refine OutOK.gateP (fun hg => ?_) (fun hg => ?_) | refine OutOK.gateN (fun hg => ?_) (fun hg => ?_) | refine IfG.g (fun hg => ?_) (fun hg => ?_) | refine OutOK.gate (fun hg => ?_) (fun hg => ?_)) <;> (try (have hg' := hg; simp at hg'))) | refine OutOK.run (by simp [*]; rfl) ?_ | refine AW.ret ?_ | refine AW.skip ?_ | refine AW.exit ?_ | refine fin_r ?_ | refine fin_n ?_ | refine AW.block ?_ | refine blockQ_n ?_ | refine blockQ_r ?_ | refine blockQ_e ?_ | refine blockQ_o rfl ?_)
  refine OutOK.callX [] (by simp [*]; rfl) (by simp [*]; rfl) (by simp [*]; rfl) hb108 (by apply cp <;> first | assumption | exact Hd.out (by assumption) | ((try clear e1); (try clear e2); omega)) ⟨by simp [*], by simp [*], by simp [*]⟩ (by simp [*]) (fun x hx => ?_)
  obtain ⟨a3, s3, i⟩ := x
  simp only at hx
  obtain ⟨r1, r2, r3⟩ := hx
  have hi : i < l.length := by omega
  clear cp
  refine CallX.mk' ⟨by simp [*], by simp [*], by simp [*], by simp [*], by simp [*]⟩ (by simp [*]; rfl) ?_
  repeat' (first | with_reducible refine AW.stopR 6 ?_ | with_reducible refine OutOK.done ?_ | refine thenQ_n ?_ | refine thenQ_r ?_ | refine thenQ_e ?_ | refine AW.seq ?_ | refine AW.dtreeJ tok mixed [] [(4, [1]), (6, [1])] (.chk [(0, false), (2, false), (3, false), (5, false), (1, false), (4, false)] [1] (.chk [(6, false)] [1] (.leaf [(7, false), (8, false)]))) (by decide +kernel) rfl (st2 := ?_) ?_ ?_ | with_reducible exact eqSt _ | with_reducible refine ForkQ.mk ?_ ?_ | with_reducible refine ChkQ.mk (by simp [*, watchB, WatchAll]) ?_ | refine OutT.chk (by simp [*]; rfl) ?_ | refine OutT.leaf (by simp [*]; rfl) ?_ | refine OutT.fork (by simp [*]; rfl) ?_ | refine AW.reg tok (by simp [*]; rfl) ?_ | refine AW.ifB (by simp [*]; rfl) ?_ | refine IfG.t ?_ | refine IfG.f ?_ | ((first | refine IfG.p (fun hg => ?_) (fun hg => ?_) | refine IfG.n (fun hg => ?_) (fun hg => ?_) | refine OutOK.gateP (fun hg => ?_) (fun hg => ?_) | refine OutOK.gateN (fun hg => ?_) (fun hg => ?_) | refine IfG.g (fun hg => ?_) (fun hg => ?_) | refine OutOK.gate (fun hg => ?_) (fun hg => ?_)) <;> (try (have hg' := hg; simp at hg'))) | refine OutOK.run (by simp [*]; rfl) ?_ | refine AW.ret ?_ | refine AW.skip ?_ | refine AW.exit ?_ | refine fin_r ?_ | refine fin_n ?_ | refine AW.block ?_ | refine blockQ_n ?_ | refine blockQ_r ?_ | refine blockQ_e ?_ | refine blockQ_o rfl ?_)
  obtain ⟨tm, ct, ck, it, tx, he⟩ : ∃ tm ct ck it tx, l[i] = ⟨tm, ct, ck, it, tx⟩ := ⟨_, _, _, _, _, rfl⟩
  have hE := q4.out l[i] (List.getElem_mem hi)
  rw [he] at hE
  simp only at hE
  obtain ⟨g1, g2, g3⟩ := hE
  have hset : Hd ((edts false l).set i (.ag (edtC false ⟨tm, ct, ck, it, tx⟩)) = edts false l) := by
    unfold Hd
    rw [← he]
    have : (edts false l)[i]'(by simp [hi]) = .ag (edtC false l[i]) := by simp
    rw [← this, List.set_getElem_self]
  have hset2 : Hd (∀ e : Edt, (edts false l).set i (.ag (edtC false e)) = edts false (l.set i e)) := fun e => by simp [els, List.map_set]
  refine ⟨AW.split 9000 14000 600000 [i, 2] (r := .sv (.sl false 5 (edts false l))) (kk := 1) (es := ints ck) (by simp) (by simp) ?_ ?_ (by simp) (by omega) (fun u hu => ?_)⟩
  · simp [Root.node, PV.own, hi]
  · simp [Root.node, PV.get, hi, he]
  refine AW.forget [(0, .pt 100000000 [] 0), (4, .c (.sc (.int .i64 (N : Int)))), (5, .rf 14000 []), (6, .c (.sc (.int .i64 (i : Int)))), (9000, .rn 600000 [] (.known u))]
    [(14000, .sv (.sl false 5 ((edts false l).set i (.ag [.sc (.int .i64 tm), .sc (.int .i64 ct), .sc u, .sc (.string it), .sc (.string tx)])))), (600000, .sv (.sl false 1 (ints ck))), (100000000, .bx (curP code a3 s3))] ⟨by simp, by simp [Root.put, PV.set, hi, he], by simp⟩ ?_
  repeat' (first | with_reducible refine OutOK.done ?_ | refine thenQ_n ?_ | refine thenQ_r ?_ | refine thenQ_e ?_ | refine AW.seq ?_ | refine AW.dtreeJ tok mixed [] [(4, [1]), (6, [1])] (.chk [(0, false), (2, false), (3, false), (5, false), (1, false), (4, false)] [1] (.chk [(6, false)] [1] (.leaf [(7, false), (8, false)]))) (by decide +kernel) rfl (st2 := ?_) ?_ ?_ | with_reducible exact eqSt _ | with_reducible refine ForkQ.mk ?_ ?_ | with_reducible refine ChkQ.mk (by simp [*, watchB, WatchAll]) ?_ | refine OutT.chk (by simp [*]; rfl) ?_ | refine OutT.leaf (by simp [*]; rfl) ?_ | refine OutT.fork (by simp [*]; rfl) ?_ | refine AW.reg tok (by simp [*]; rfl) ?_ | refine AW.ifB (by simp [*]; rfl) ?_ | refine IfG.t ?_ | refine IfG.f ?_ | ((first | refine IfG.p (fun hg => ?_) (fun hg => ?_) | refine IfG.n (fun hg => ?_) (fun hg => ?_) | refine OutOK.gateP (fun hg => ?_) (fun hg => ?_) | refine OutOK.gateN (fun hg => ?_) (fun hg => ?_) | refine IfG.g (fun hg => ?_) (fun hg => ?_) | refine OutOK.gate (fun hg => ?_) (fun hg => ?_)) <;> (try (have hg' := hg; simp at hg'))) | refine OutOK.run (by simp [*]; rfl) ?_ | refine AW.ret ?_ | refine AW.skip ?_ | refine AW.exit ?_ | refine fin_r ?_ | refine fin_n ?_ | refine AW.block ?_ | refine blockQ_n ?_ | refine blockQ_r ?_ | refine blockQ_e ?_ | refine blockQ_o rfl ?_)
  refine OutOK.callX [] (by simp [*]; rfl) (by simp [*]; rfl) (by simp [*]; rfl) hb108 (by apply x_pickN4 <;> first | assumption | exact Hd.out (by assumption) | ((try clear e1); (try clear e2); omega)) ⟨by simp [*], by simp [*], by simp [*]⟩ (by simp [*]) (fun x hx => ?_)
  obtain ⟨a4, s4, v⟩ := x
  simp only at hx
  obtain ⟨t1, t2, t3⟩ := hx
  refine CallX.mk' ⟨by simp [*], by simp [*], by simp [*], by simp [*], by simp [*]⟩ (by simp [*]; rfl) ?_
  repeat' (first | with_reducible refine AW.stopB 0 ?_ | with_reducible refine OutOK.done ?_ | refine thenQ_n ?_ | refine thenQ_r ?_ | refine thenQ_e ?_ | refine AW.seq ?_ | refine AW.dtreeJ tok mixed [] [(4, [1]), (6, [1])] (.chk [(0, false), (2, false), (3, false), (5, false), (1, false), (4, false)] [1] (.chk [(6, false)] [1] (.leaf [(7, false), (8, false)]))) (by decide +kernel) rfl (st2 := ?_) ?_ ?_ | with_reducible exact eqSt _ | with_reducible refine ForkQ.mk ?_ ?_ | with_reducible refine ChkQ.mk (by simp [*, watchB, WatchAll]) ?_ | refine OutT.chk (by simp [*]; rfl) ?_ | refine OutT.leaf (by simp [*]; rfl) ?_ | refine OutT.fork (by simp [*]; rfl) ?_ | refine AW.reg tok (by simp [*]; rfl) ?_ | refine AW.ifB (by simp [*]; rfl) ?_ | refine IfG.t ?_ | refine IfG.f ?_ | ((first | refine IfG.p (fun hg => ?_) (fun hg => ?_) | refine IfG.n (fun hg => ?_) (fun hg => ?_) | refine OutOK.gateP (fun hg => ?_) (fun hg => ?_) | refine OutOK.gateN (fun hg => ?_) (fun hg => ?_) | refine IfG.g (fun hg => ?_) (fun hg => ?_) | refine OutOK.gate (fun hg => ?_) (fun hg => ?_)) <;> (try (have hg' := hg; simp at hg'))) | refine OutOK.run (by simp [*]; rfl) ?_ | refine AW.ret ?_ | refine AW.skip ?_ | refine AW.exit ?_ | refine fin_r ?_ | refine fin_n ?_ | refine AW.block ?_ | refine blockQ_n ?_ | refine blockQ_r ?_ | refine blockQ_e ?_ | refine blockQ_o rfl ?_)
  have hW : Hd (HOW l) := HOK.w q4.out hN
  replace g1 : Hd _ := g1
  by_cases v0 : v = 0
  · subst v0
    refine ⟨AW.join 9000 7000 600000 [2] (r := .bx [.sc (.int .i64 tm), .sc (.int .i64 ct), .sc u, .sc (.string it), .sc (.string tx)]) (kk := 1) (es := ints ck) (u := u) (by simp) (by simp) (by simp) (by omega) (by simp) (by simp [Root.node, PV.own]) (by simp [Root.node, PV.get]) ?_⟩
    refine AW.forget [(0, .pt 100000000 [] 0), (4, .c (.sc (.int .i64 (N : Int)))), (5, .rf 14000 []), (6, .c (.sc (.int .i64 (i : Int)))), (7, .pt 7000 [] 0), (33, .c (.sc (.int .i64 0)))] [(7000, .bx [.sc (.int .i64 tm), .sc (.int .i64 ct), .sl false 1 (ints ck), .sc (.string it), .sc (.string tx)]), (14000, .sv (.sl false 5 ((edts false l).set i (.ag [.sc (.int .i64 tm), .sc (.int .i64 ct), .sc u, .sc (.string it), .sc (.string tx)])))), (100000000, .bx (curP code a4 s4))] ⟨by simp, by simp [Root.put, PV.set], by simp⟩ ?_
    repeat' (first | with_reducible refine OutOK.done ?_ | refine thenQ_n ?_ | refine thenQ_r ?_ | refine thenQ_e ?_ | refine AW.seq ?_ | refine AW.dtreeJ tok mixed [] [(4, [1]), (6, [1])] (.chk [(0, false), (2, false), (3, false), (5, false), (1, false), (4, false)] [1] (.chk [(6, false)] [1] (.leaf [(7, false), (8, false)]))) (by decide +kernel) rfl (st2 := ?_) ?_ ?_ | with_reducible exact eqSt _ | with_reducible refine ForkQ.mk ?_ ?_ | with_reducible refine ChkQ.mk (by simp [*, watchB, WatchAll]) ?_ | refine OutT.chk (by simp [*]; rfl) ?_ | refine OutT.leaf (by simp [*]; rfl) ?_ | refine OutT.fork (by simp [*]; rfl) ?_ | refine AW.reg tok (by simp [*]; rfl) ?_ | refine AW.ifB (by simp [*]; rfl) ?_ | refine IfG.t ?_ | refine IfG.f ?_ | ((first | refine IfG.p (fun hg => ?_) (fun hg => ?_) | refine IfG.n (fun hg => ?_) (fun hg => ?_) | refine OutOK.gateP (fun hg => ?_) (fun hg => ?_) | refine OutOK.gateN (fun hg => ?_) (fun hg => ?_) | refine IfG.g (fun hg => ?_) (fun hg => ?_) | refine OutOK.gate (fun hg => ?_) (fun hg => ?_)) <;> (try (have hg' := hg; simp at hg'))) | refine OutOK.run (by simp [*]; rfl) ?_ | refine AW.ret ?_ | refine AW.skip ?_ | refine AW.exit ?_ | refine fin_r ?_ | refine fin_n ?_ | refine AW.block ?_ | refine blockQ_n ?_ | refine blockQ_r ?_ | refine blockQ_e ?_ | refine blockQ_o rfl ?_)
    refine OutOK.callX [] (by simp [*]; rfl) (by simp [*]; rfl) (by simp [*]; rfl) hb108 (by apply x_pickN4 <;> first | assumption | exact Hd.out (by assumption) | ((try clear e1); (try clear e2); omega)) ⟨by simp [*], by simp [*], by simp [*]⟩ (by simp [*]) (fun x hx => ?_)
    obtain ⟨a5, s5, k5⟩ := x
    simp only at hx
    obtain ⟨z1, z2, z3⟩ := hx
    obtain ⟨w, f1⟩ : ∃ w, wrap64 ((k5 : Int) - 1) = w := ⟨_, rfl⟩
    refine CallX.mk' ⟨by simp [*], by simp [*], by simp [*], by simp [*], by simp [*]⟩ (by simp [*]; rfl) ?_
    repeat' (first | with_reducible refine OutOK.done ?_ | refine thenQ_n ?_ | refine thenQ_r ?_ | refine thenQ_e ?_ | refine AW.seq ?_ | refine AW.dtreeJ tok mixed [] [(4, [1]), (6, [1])] (.chk [(0, false), (2, false), (3, false), (5, false), (1, false), (4, false)] [1] (.chk [(6, false)] [1] (.leaf [(7, false), (8, false)]))) (by decide +kernel) rfl (st2 := ?_) ?_ ?_ | with_reducible exact eqSt _ | with_reducible refine ForkQ.mk ?_ ?_ | with_reducible refine ChkQ.mk (by simp [*, watchB, WatchAll]) ?_ | refine OutT.chk (by simp [*]; rfl) ?_ | refine OutT.leaf (by simp [*]; rfl) ?_ | refine OutT.fork (by simp [*]; rfl) ?_ | refine AW.reg tok (by simp [*]; rfl) ?_ | refine AW.ifB (by simp [*]; rfl) ?_ | refine IfG.t ?_ | refine IfG.f ?_ | ((first | refine IfG.p (fun hg => ?_) (fun hg => ?_) | refine IfG.n (fun hg => ?_) (fun hg => ?_) | refine OutOK.gateP (fun hg => ?_) (fun hg => ?_) | refine OutOK.gateN (fun hg => ?_) (fun hg => ?_) | refine IfG.g (fun hg => ?_) (fun hg => ?_) | refine OutOK.gate (fun hg => ?_) (fun hg => ?_)) <;> (try (have hg' := hg; simp at hg'))) | refine OutOK.run (by simp [*]; rfl) ?_ | refine AW.ret ?_ | refine AW.skip ?_ | refine AW.exit ?_ | refine fin_r ?_ | refine fin_n ?_ | refine AW.block ?_ | refine blockQ_n ?_ | refine blockQ_r ?_ | refine blockQ_e ?_ | refine blockQ_o rfl ?_)
    have hs := hset2.out ⟨w, ct, ck, it, tx⟩
    simp only [edtC] at hs
    exact ⟨(a5, s5, l.set i ⟨w, ct, ck, it, tx⟩, (N : Int)), ⟨by simp only; ((try clear e1); (try clear e2); omega), by simp only; ((try clear e1); (try clear e2); omega), by simp; ((try clear e1); (try clear e2); omega), HOW_set hW.out ⟨(by have := g1.out; simp only; ((try clear e1); (try clear e2); omega)), g2, g3⟩, by simp only; ((try clear e1); (try clear e2); omega), by simp only; ((try clear e1); (try clear e2); omega)⟩, by simp [Try.f105, hs]⟩
  have w0 : ¬ (v : Int) = 0 := by omega
  by_cases v1 : v = 1
  · subst v1
    refine ⟨AW.join 9000 7000 600000 [2] (r := .bx [.sc (.int .i64 tm), .sc (.int .i64 ct), .sc u, .sc (.string it), .sc (.string tx)]) (kk := 1) (es := ints ck) (u := u) (by simp) (by simp) (by simp) (by omega) (by simp) (by simp [Root.node, PV.own]) (by simp [Root.node, PV.get]) ?_⟩
    refine AW.forget [(0, .pt 100000000 [] 0), (4, .c (.sc (.int .i64 (N : Int)))), (5, .rf 14000 []), (6, .c (.sc (.int .i64 (i : Int)))), (7, .pt 7000 [] 0), (33, .c (.sc (.int .i64 1)))] [(7000, .bx [.sc (.int .i64 tm), .sc (.int .i64 ct), .sl false 1 (ints ck), .sc (.string it), .sc (.string tx)]), (14000, .sv (.sl false 5 ((edts false l).set i (.ag [.sc (.int .i64 tm), .sc (.int .i64 ct), .sc u, .sc (.string it), .sc (.string tx)])))), (100000000, .bx (curP code a4 s4))] ⟨by simp, by simp [Root.put, PV.set], by simp⟩ ?_
    obtain ⟨w, f1⟩ : ∃ w, wrap64 (ct + 1) = w := ⟨_, rfl⟩
    repeat' (first | with_reducible refine OutOK.done ?_ | refine thenQ_n ?_ | refine thenQ_r ?_ | refine thenQ_e ?_ | refine AW.seq ?_ | refine AW.dtreeJ tok mixed [] [(4, [1]), (6, [1])] (.chk [(0, false), (2, false), (3, false), (5, false), (1, false), (4, false)] [1] (.chk [(6, false)] [1] (.leaf [(7, false), (8, false)]))) (by decide +kernel) rfl (st2 := ?_) ?_ ?_ | with_reducible exact eqSt _ | with_reducible refine ForkQ.mk ?_ ?_ | with_reducible refine ChkQ.mk (by simp [*, watchB, WatchAll]) ?_ | refine OutT.chk (by simp [*]; rfl) ?_ | refine OutT.leaf (by simp [*]; rfl) ?_ | refine OutT.fork (by simp [*]; rfl) ?_ | refine AW.reg tok (by simp [*]; rfl) ?_ | refine AW.ifB (by simp [*]; rfl) ?_ | refine IfG.t ?_ | refine IfG.f ?_ | ((first | refine IfG.p (fun hg => ?_) (fun hg => ?_) | refine IfG.n (fun hg => ?_) (fun hg => ?_) | refine OutOK.gateP (fun hg => ?_) (fun hg => ?_) | refine OutOK.gateN (fun hg => ?_) (fun hg => ?_) | refine IfG.g (fun hg => ?_) (fun hg => ?_) | refine OutOK.gate (fun hg => ?_) (fun hg => ?_)) <;> (try (have hg' := hg; simp at hg'))) | refine OutOK.run (by simp [*]; rfl) ?_ | refine AW.ret ?_ | refine AW.skip ?_ | refine AW.exit ?_ | refine fin_r ?_ | refine fin_n ?_ | refine AW.block ?_ | refine blockQ_n ?_ | refine blockQ_r ?_ | refine blockQ_e ?_ | refine blockQ_o rfl ?_)
    have hs := hset2.out ⟨tm, w, ck, it, tx⟩
    simp only [edtC] at hs
    exact ⟨(a4, s4, l.set i ⟨tm, w, ck, it, tx⟩, (N : Int)), ⟨by simp only; ((try clear e1); (try clear e2); omega), by simp only; ((try clear e1); (try clear e2); omega), by simp; ((try clear e1); (try clear e2); omega), HOW_set hW.out ⟨(by have := g1.out; simp only; ((try clear e1); (try clear e2); omega)), g2, g3⟩, by simp only; ((try clear e1); (try clear e2); omega), by simp only; ((try clear e1); (try clear e2); omega)⟩, by simp [Try.f105, hs]⟩
  have w1 : ¬ (v : Int) = 1 := by omega
  by_cases v2 : v = 2
  · subst v2
    refine ⟨AW.join 9000 7000 600000 [2] (r := .bx [.sc (.int .i64 tm), .sc (.int .i64 ct), .sc u, .sc (.string it), .sc (.string tx)]) (kk := 1) (es := ints ck) (u := u) (by simp) (by simp) (by simp) (by omega) (by simp) (by simp [Root.node, PV.own]) (by simp [Root.node, PV.get]) ?_⟩
    refine AW.forget [(0, .pt 100000000 [] 0), (4, .c (.sc (.int .i64 (N : Int)))), (5, .rf 14000 []), (6, .c (.sc (.int .i64 (i : Int)))), (7, .pt 7000 [] 0), (33, .c (.sc (.int .i64 2)))] [(7000, .bx [.sc (.int .i64 tm), .sc (.int .i64 ct), .sl false 1 (ints ck), .sc (.string it), .sc (.string tx)]), (14000, .sv (.sl false 5 ((edts false l).set i (.ag [.sc (.int .i64 tm), .sc (.int .i64 ct), .sc u, .sc (.string it), .sc (.string tx)])))), (100000000, .bx (curP code a4 s4))] ⟨by simp, by simp [Root.put, PV.set], by simp⟩ ?_
    have cq := fun (a s : Int) h0 h1 => x_pickN4 code a s (N : Int) h0 h1 hc hb (by omega) (by omega)
    repeat' (first | with_reducible refine OutOK.done ?_ | refine thenQ_n ?_ | refine thenQ_r ?_ | refine thenQ_e ?_ | refine AW.seq ?_ | refine AW.dtree tok mixed [] [(4, [1]), (6, [1])] (.chk [(0, false), (2, false), (3, false), (5, false), (1, false), (4, false)] [1] (.chk [(6, false)] [1] (.leaf [(7, false), (8, false)]))) (by decide +kernel) rfl ?_ | with_reducible exact eqSt _ | with_reducible refine ForkQ.mk ?_ ?_ | with_reducible refine ChkQ.mk (by simp [*, watchB, WatchAll]) ?_ | refine OutT.chk (by simp [*]; rfl) ?_ | refine OutT.leaf (by simp [*]; rfl) ?_ | refine OutT.fork (by simp [*]; rfl) ?_ | refine AW.reg tok (by simp [*]; rfl) ?_ | refine AW.ifB (by simp [*]; rfl) ?_ | refine IfG.t ?_ | refine IfG.f ?_ | ((first | refine IfG.p (fun hg => ?_) (fun hg => ?_) | refine IfG.n (fun hg => ?_) (fun hg => ?_) | refine OutOK.gateP (fun hg => ?_) (fun hg => ?_) | refine OutOK.gateN (fun hg => ?_) (fun hg => ?_) | refine IfG.g (fun hg => ?_) (fun hg => ?_) | refine OutOK.gate (fun hg => ?_) (fun hg => ?_)) <;> (try (have hg' := hg; simp at hg'))) | (refine OutOK.callX [] (by simp [*]; rfl) (by simp [*]; rfl) (by simp [*]; rfl) hb108 (by apply cq <;> first | assumption | exact Hd.out (by assumption) | ((try clear e1); (try clear e2); omega)) ⟨by simp [*], by simp [*], by simp [*]⟩ (by simp [*]) (fun x hx => CallX.mk' ⟨by simp [*], by simp [*], by simp [*], by simp [*], by simp [*]⟩ (by simp [*]; rfl) ?_)) | (refine OutOK.callX [] (by simp [*]; rfl) (by simp [*]; rfl) (by simp [*]; rfl) hb108 (by apply x_pickN4 <;> first | assumption | exact Hd.out (by assumption) | ((try clear e1); (try clear e2); omega)) ⟨by simp [*], by simp [*], by simp [*]⟩ (by simp [*]) (fun x hx => CallX.mk' ⟨by simp [*], by simp [*], by simp [*], by simp [*], by simp [*]⟩ (by simp [*]; rfl) ?_)) | refine OutOK.run (by simp [*]; rfl) ?_ | refine AW.ret ?_ | refine AW.skip ?_ | refine AW.exit ?_ | refine fin_r ?_ | refine fin_n ?_ | refine AW.block ?_ | refine blockQ_n ?_ | refine blockQ_r ?_ | refine blockQ_e ?_ | refine blockQ_o rfl ?_)
    rename_i y hy
    obtain ⟨a5, s5, k5⟩ := y
    simp only at hy
    obtain ⟨z1, z2, z3⟩ := hy
    obtain ⟨a6, s6, k6⟩ := x
    simp only at hx
    obtain ⟨y1, y2, y3⟩ := hx
    have hk5 : k5 < ck.length := by have := g1.out; ((try clear e1); (try clear e2); omega)
    clear cq
    repeat' (first | with_reducible refine OutOK.done ?_ | refine thenQ_n ?_ | refine thenQ_r ?_ | refine thenQ_e ?_ | refine AW.seq ?_ | refine AW.dtreeJ tok mixed [] [(4, [1]), (6, [1])] (.chk [(0, false), (2, false), (3, false), (5, false), (1, false), (4, false)] [1] (.chk [(6, false)] [1] (.leaf [(7, false), (8, false)]))) (by decide +kernel) rfl (st2 := ?_) ?_ ?_ | with_reducible exact eqSt _ | with_reducible refine ForkQ.mk ?_ ?_ | with_reducible refine ChkQ.mk (by simp [*, watchB, WatchAll]) ?_ | refine OutT.chk (by simp [*]; rfl) ?_ | refine OutT.leaf (by simp [*]; rfl) ?_ | refine OutT.fork (by simp [*]; rfl) ?_ | refine AW.reg tok (by simp [*]; rfl) ?_ | refine AW.ifB (by simp [*]; rfl) ?_ | refine IfG.t ?_ | refine IfG.f ?_ | ((first | refine IfG.p (fun hg => ?_) (fun hg => ?_) | refine IfG.n (fun hg => ?_) (fun hg => ?_) | refine OutOK.gateP (fun hg => ?_) (fun hg => ?_) | refine OutOK.gateN (fun hg => ?_) (fun hg => ?_) | refine IfG.g (fun hg => ?_) (fun hg => ?_) | refine OutOK.gate (fun hg => ?_) (fun hg => ?_)) <;> (try (have hg' := hg; simp at hg'))) | refine OutOK.run (by simp [*]; rfl) ?_ | refine AW.ret ?_ | refine AW.skip ?_ | refine AW.exit ?_ | refine fin_r ?_ | refine fin_n ?_ | refine AW.block ?_ | refine blockQ_n ?_ | refine blockQ_r ?_ | refine blockQ_e ?_ | refine blockQ_o rfl ?_)
    have hs := hset2.out ⟨tm, ct, ck.set k5 (k6 : Int), it, tx⟩
    simp only [edtC] at hs
    exact ⟨(a6, s6, l.set i ⟨tm, ct, ck.set k5 (k6 : Int), it, tx⟩, (N : Int)), ⟨by simp only; ((try clear e1); (try clear e2); omega), by simp only; ((try clear e1); (try clear e2); omega), by simp; ((try clear e1); (try clear e2); omega), HOW_set hW.out ⟨(by have := g1.out; simp; ((try clear e1); (try clear e2); omega)), g2, g3⟩, by simp only; ((try clear e1); (try clear e2); omega), by simp only; ((try clear e1); (try clear e2); omega)⟩, by simp [Try.f105, hs]⟩
  have w2 : ¬ (v : Int) = 2 := by omega
  by_cases v3 : v = 3
  · subst v3
    refine ⟨AW.join 9000 7000 600000 [2] (r := .bx [.sc (.int .i64 tm), .sc (.int .i64 ct), .sc u, .sc (.string it), .sc (.string tx)]) (kk := 1) (es := ints ck) (u := u) (by simp) (by simp) (by simp) (by omega) (by simp) (by simp [Root.node, PV.own]) (by simp [Root.node, PV.get]) ?_⟩
    refine AW.forget [(0, .pt 100000000 [] 0), (4, .c (.sc (.int .i64 (N : Int)))), (5, .rf 14000 []), (6, .c (.sc (.int .i64 (i : Int)))), (7, .pt 7000 [] 0), (33, .c (.sc (.int .i64 3)))] [(7000, .bx [.sc (.int .i64 tm), .sc (.int .i64 ct), .sl false 1 (ints ck), .sc (.string it), .sc (.string tx)]), (14000, .sv (.sl false 5 ((edts false l).set i (.ag [.sc (.int .i64 tm), .sc (.int .i64 ct), .sc u, .sc (.string it), .sc (.string tx)])))), (100000000, .bx (curP code a4 s4))] ⟨by simp, by simp [Root.put, PV.set], by simp⟩ ?_
    have b1 : (ck.length + 1) * 8 ≤ 140737488355328 := by have := g1.out; omega
    have b2 : ck.length + 1 ≤ 4611686018427387904 := by have := g1.out; omega
    repeat' (first | with_reducible refine OutOK.done ?_ | refine thenQ_n ?_ | refine thenQ_r ?_ | refine thenQ_e ?_ | refine AW.seq ?_ | refine AW.dtreeJ tok mixed [] [(4, [1]), (6, [1])] (.chk [(0, false), (2, false), (3, false), (5, false), (1, false), (4, false)] [1] (.chk [(6, false)] [1] (.leaf [(7, false), (8, false)]))) (by decide +kernel) rfl (st2 := ?_) ?_ ?_ | with_reducible exact eqSt _ | with_reducible refine ForkQ.mk ?_ ?_ | with_reducible refine ChkQ.mk (by simp [*, watchB, WatchAll]) ?_ | refine OutT.chk (by simp [*]; rfl) ?_ | refine OutT.leaf (by simp [*]; rfl) ?_ | refine OutT.fork (by simp [*]; rfl) ?_ | refine AW.reg tok (by simp [*]; rfl) ?_ | refine AW.ifB (by simp [*]; rfl) ?_ | refine IfG.t ?_ | refine IfG.f ?_ | ((first | refine IfG.p (fun hg => ?_) (fun hg => ?_) | refine IfG.n (fun hg => ?_) (fun hg => ?_) | refine OutOK.gateP (fun hg => ?_) (fun hg => ?_) | refine OutOK.gateN (fun hg => ?_) (fun hg => ?_) | refine IfG.g (fun hg => ?_) (fun hg => ?_) | refine OutOK.gate (fun hg => ?_) (fun hg => ?_)) <;> (try (have hg' := hg; simp at hg'))) | refine OutOK.run (by simp [*]; rfl) ?_ | refine AW.ret ?_ | refine AW.skip ?_ | refine AW.exit ?_ | refine fin_r ?_ | refine fin_n ?_ | refine AW.block ?_ | refine blockQ_n ?_ | refine blockQ_r ?_ | refine blockQ_e ?_ | refine blockQ_o rfl ?_)
    have hs := hset2.out ⟨tm, ct, ck ++ [0], it, tx⟩
    simp only [edtC] at hs
    exact ⟨(a4, s4, l.set i ⟨tm, ct, ck ++ [0], it, tx⟩, (N : Int)), ⟨by simp only; ((try clear e1); (try clear e2); omega), by simp only; ((try clear e1); (try clear e2); omega), by simp; ((try clear e1); (try clear e2); omega), HOW_set hW.out ⟨(by have := g1.out; simp; ((try clear e1); (try clear e2); omega)), g2, g3⟩, by simp only; ((try clear e1); (try clear e2); omega), by simp only; ((try clear e1); (try clear e2); omega)⟩, by simp [Try.f105, hs]⟩
  have w3 : ¬ (v : Int) = 3 := by omega
  by_cases v4 : v = 4
  · subst v4
    refine ⟨AW.join 9000 7000 600000 [2] (r := .bx [.sc (.int .i64 tm), .sc (.int .i64 ct), .sc u, .sc (.string it), .sc (.string tx)]) (kk := 1) (es := ints ck) (u := u) (by simp) (by simp) (by simp) (by omega) (by simp) (by simp [Root.node, PV.own]) (by simp [Root.node, PV.get]) ?_⟩
    refine AW.forget [(0, .pt 100000000 [] 0), (4, .c (.sc (.int .i64 (N : Int)))), (5, .rf 14000 []), (6, .c (.sc (.int .i64 (i : Int)))), (7, .pt 7000 [] 0), (33, .c (.sc (.int .i64 4)))] [(7000, .bx [.sc (.int .i64 tm), .sc (.int .i64 ct), .sl false 1 (ints ck), .sc (.string it), .sc (.string tx)]), (14000, .sv (.sl false 5 ((edts false l).set i (.ag [.sc (.int .i64 tm), .sc (.int .i64 ct), .sc u, .sc (.string it), .sc (.string tx)])))), (100000000, .bx (curP code a4 s4))] ⟨by simp, by simp [Root.put, PV.set], by simp⟩ ?_
    have cA := fun (a s : Int) h0 h1 => x_ofT code a s [⟨#[65]⟩, ⟨#[]⟩, ⟨#[112, 105, 116]⟩] h0 h1 hc hb (by decide) (by decide) (by decide)
    simp only [strs, List.map_cons, List.map_nil] at cA
    repeat' (first | with_reducible refine OutOK.done ?_ | refine thenQ_n ?_ | refine thenQ_r ?_ | refine thenQ_e ?_ | refine AW.seq ?_ | refine AW.dtreeJ tok mixed [] [(4, [1]), (6, [1])] (.chk [(0, false), (2, false), (3, false), (5, false), (1, false), (4, false)] [1] (.chk [(6, false)] [1] (.leaf [(7, false), (8, false)]))) (by decide +kernel) rfl (st2 := ?_) ?_ ?_ | with_reducible exact eqSt _ | with_reducible refine ForkQ.mk ?_ ?_ | with_reducible refine ChkQ.mk (by simp [*, watchB, WatchAll]) ?_ | refine OutT.chk (by simp [*]; rfl) ?_ | refine OutT.leaf (by simp [*]; rfl) ?_ | refine OutT.fork (by simp [*]; rfl) ?_ | refine AW.reg tok (by simp [*]; rfl) ?_ | refine AW.ifB (by simp [*]; rfl) ?_ | refine IfG.t ?_ | refine IfG.f ?_ | ((first | refine IfG.p (fun hg => ?_) (fun hg => ?_) | refine IfG.n (fun hg => ?_) (fun hg => ?_) | refine OutOK.gateP (fun hg => ?_) (fun hg => ?_) | refine OutOK.gateN (fun hg => ?_) (fun hg => ?_) | refine IfG.g (fun hg => ?_) (fun hg => ?_) | refine OutOK.gate (fun hg => ?_) (fun hg => ?_)) <;> (try (have hg' := hg; simp at hg'))) | refine OutOK.run (by simp [*]; rfl) ?_ | refine AW.ret ?_ | refine AW.skip ?_ | refine AW.exit ?_ | refine fin_r ?_ | refine fin_n ?_ | refine AW.block ?_ | refine blockQ_n ?_ | refine blockQ_r ?_ | refine blockQ_e ?_ | refine blockQ_o rfl ?_)
    refine OutOK.callX [false, true] (by simp [*]; rfl) (by simp [*]; rfl) (by simp [*]; rfl) hb135 (by apply cA <;> first | assumption | exact Hd.out (by assumption) | ((try clear e1); (try clear e2); omega)) ⟨by simp [*], by simp [*], by simp [*]⟩ (by simp [*]) (fun x hx => ?_)
    obtain ⟨a5, s5, it5⟩ := x
    simp only at hx
    obtain ⟨z1, z2, z3⟩ := hx
    refine CallX.mk' ⟨by simp [*], by simp [*], by simp [*], by simp [*], by simp [*]⟩ (by simp [*]; rfl) ?_
    repeat' (first | with_reducible refine OutOK.done ?_ | refine thenQ_n ?_ | refine thenQ_r ?_ | refine thenQ_e ?_ | refine AW.seq ?_ | refine AW.dtreeJ tok mixed [] [(4, [1]), (6, [1])] (.chk [(0, false), (2, false), (3, false), (5, false), (1, false), (4, false)] [1] (.chk [(6, false)] [1] (.leaf [(7, false), (8, false)]))) (by decide +kernel) rfl (st2 := ?_) ?_ ?_ | with_reducible exact eqSt _ | with_reducible refine ForkQ.mk ?_ ?_ | with_reducible refine ChkQ.mk (by simp [*, watchB, WatchAll]) ?_ | refine OutT.chk (by simp [*]; rfl) ?_ | refine OutT.leaf (by simp [*]; rfl) ?_ | refine OutT.fork (by simp [*]; rfl) ?_ | refine AW.reg tok (by simp [*]; rfl) ?_ | refine AW.ifB (by simp [*]; rfl) ?_ | refine IfG.t ?_ | refine IfG.f ?_ | ((first | refine IfG.p (fun hg => ?_) (fun hg => ?_) | refine IfG.n (fun hg => ?_) (fun hg => ?_) | refine OutOK.gateP (fun hg => ?_) (fun hg => ?_) | refine OutOK.gateN (fun hg => ?_) (fun hg => ?_) | refine IfG.g (fun hg => ?_) (fun hg => ?_) | refine OutOK.gate (fun hg => ?_) (fun hg => ?_)) <;> (try (have hg' := hg; simp at hg'))) | refine OutOK.run (by simp [*]; rfl) ?_ | refine AW.ret ?_ | refine AW.skip ?_ | refine AW.exit ?_ | refine fin_r ?_ | refine fin_n ?_ | refine AW.block ?_ | refine blockQ_n ?_ | refine blockQ_r ?_ | refine blockQ_e ?_ | refine blockQ_o rfl ?_)
    have hs := hset2.out ⟨tm, ct, ck, it5, tx⟩
    simp only [edtC] at hs
    exact ⟨(a5, s5, l.set i ⟨tm, ct, ck, it5, tx⟩, (N : Int)), ⟨by simp only; ((try clear e1); (try clear e2); omega), by simp only; ((try clear e1); (try clear e2); omega), by simp; ((try clear e1); (try clear e2); omega), HOW_set hW.out ⟨(by have := g1.out; simp only; ((try clear e1); (try clear e2); omega)), z3, g3⟩, by simp only; ((try clear e1); (try clear e2); omega), by simp only; ((try clear e1); (try clear e2); omega)⟩, by simp [Try.f105, hs]⟩
  have w4 : ¬ (v : Int) = 4 := by omega
  by_cases v5 : v = 5
  · subst v5
    have hsX := hset.out
    simp only [edtC] at hsX
    refine ⟨AW.join 9000 14000 600000 [i, 2] (r := .sv (.sl false 5 ((edts false l).set i (.ag [.sc (.int .i64 tm), .sc (.int .i64 ct), .sc u, .sc (.string it), .sc (.string tx)])))) (kk := 1) (es := ints ck) (u := u) (by simp) (by simp) (by simp) (by omega) (by simp) (by simp [Root.node, PV.own, hi]) (by simp [Root.node, PV.get, hi]) ?_⟩
    refine AW.forget [(0, .pt 100000000 [] 0), (4, .c (.sc (.int .i64 (N : Int)))), (5, .rf 14000 []), (33, .c (.sc (.int .i64 5)))] [(14000, .sv (.sl false 5 (edts false l))), (100000000, .bx (curP code a4 s4))] ⟨by simp, by simp [Root.put, PV.set, hi, hsX], by simp⟩ ?_
    clear hsX
    have ca := fun (a s : Int) h0 h1 => x_amongT code a s [0, 1, 2, 3, 4] h0 h1 hc hb (by simp) (by simp) (by simp)
    simp only [ints, List.map_cons, List.map_nil] at ca
    repeat' (first | with_reducible refine OutOK.done ?_ | refine thenQ_n ?_ | refine thenQ_r ?_ | refine thenQ_e ?_ | refine AW.seq ?_ | refine AW.dtreeJ tok mixed [] [(4, [1]), (6, [1])] (.chk [(0, false), (2, false), (3, false), (5, false), (1, false), (4, false)] [1] (.chk [(6, false)] [1] (.leaf [(7, false), (8, false)]))) (by decide +kernel) rfl (st2 := ?_) ?_ ?_ | with_reducible exact eqSt _ | with_reducible refine ForkQ.mk ?_ ?_ | with_reducible refine ChkQ.mk (by simp [*, watchB, WatchAll]) ?_ | refine OutT.chk (by simp [*]; rfl) ?_ | refine OutT.leaf (by simp [*]; rfl) ?_ | refine OutT.fork (by simp [*]; rfl) ?_ | refine AW.reg tok (by simp [*]; rfl) ?_ | refine AW.ifB (by simp [*]; rfl) ?_ | refine IfG.t ?_ | refine IfG.f ?_ | ((first | refine IfG.p (fun hg => ?_) (fun hg => ?_) | refine IfG.n (fun hg => ?_) (fun hg => ?_) | refine OutOK.gateP (fun hg => ?_) (fun hg => ?_) | refine OutOK.gateN (fun hg => ?_) (fun hg => ?_) | refine IfG.g (fun hg => ?_) (fun hg => ?_) | refine OutOK.gate (fun hg => ?_) (fun hg => ?_)) <;> (try (have hg' := hg; simp at hg'))) | refine OutOK.run (by simp [*]; rfl) ?_ | refine AW.ret ?_ | refine AW.skip ?_ | refine AW.exit ?_ | refine fin_r ?_ | refine fin_n ?_ | refine AW.block ?_ | refine blockQ_n ?_ | refine blockQ_r ?_ | refine blockQ_e ?_ | refine blockQ_o rfl ?_)
    refine OutOK.callX [false, true] (by simp [*]; rfl) (by simp [*]; rfl) (by simp [*]; rfl) hb134 (by apply ca <;> first | assumption | exact Hd.out (by assumption) | ((try clear e1); (try clear e2); omega)) ⟨by simp [*], by simp [*], by simp [*]⟩ (by simp [*]) (fun x hx => ?_)
    obtain ⟨a5, s5, k5⟩ := x
    simp only at hx
    obtain ⟨z1, z2, z3⟩ := hx
    refine CallX.mk' ⟨by simp [*], by simp [*], by simp [*], by simp [*], by simp [*]⟩ (by simp [*]; rfl) ?_
    repeat' (first | with_reducible refine OutOK.done ?_ | refine thenQ_n ?_ | refine thenQ_r ?_ | refine thenQ_e ?_ | refine AW.seq ?_ | refine AW.dtreeJ tok mixed [] [(4, [1]), (6, [1])] (.chk [(0, false), (2, false), (3, false), (5, false), (1, false), (4, false)] [1] (.chk [(6, false)] [1] (.leaf [(7, false), (8, false)]))) (by decide +kernel) rfl (st2 := ?_) ?_ ?_ | with_reducible exact eqSt _ | with_reducible refine ForkQ.mk ?_ ?_ | with_reducible refine ChkQ.mk (by simp [*, watchB, WatchAll]) ?_ | refine OutT.chk (by simp [*]; rfl) ?_ | refine OutT.leaf (by simp [*]; rfl) ?_ | refine OutT.fork (by simp [*]; rfl) ?_ | refine AW.reg tok (by simp [*]; rfl) ?_ | refine AW.ifB (by simp [*]; rfl) ?_ | refine IfG.t ?_ | refine IfG.f ?_ | ((first | refine IfG.p (fun hg => ?_) (fun hg => ?_) | refine IfG.n (fun hg => ?_) (fun hg => ?_) | refine OutOK.gateP (fun hg => ?_) (fun hg => ?_) | refine OutOK.gateN (fun hg => ?_) (fun hg => ?_) | refine IfG.g (fun hg => ?_) (fun hg => ?_) | refine OutOK.gate (fun hg => ?_) (fun hg => ?_)) <;> (try (have hg' := hg; simp at hg'))) | refine OutOK.run (by simp [*]; rfl) ?_ | refine AW.ret ?_ | refine AW.skip ?_ | refine AW.exit ?_ | refine fin_r ?_ | refine fin_n ?_ | refine AW.block ?_ | refine blockQ_n ?_ | refine blockQ_r ?_ | refine blockQ_e ?_ | refine blockQ_o rfl ?_)
    exact ⟨(a5, s5, l, k5), ⟨by simp only; ((try clear e1); (try clear e2); omega), by simp only; ((try clear e1); (try clear e2); omega), by simp only; ((try clear e1); (try clear e2); omega), hW.out, by simp only; ((try clear e1); (try clear e2); omega), by simp only; ((try clear e1); (try clear e2); omega)⟩, by simp [Try.f105]⟩
  have w5 : ¬ (v : Int) = 5 := by omega
  by_cases v6 : v = 6
  · subst v6
    have hsX := hset.out
    simp only [edtC] at hsX
    refine ⟨AW.join 9000 14000 600000 [i, 2] (r := .sv (.sl false 5 ((edts false l).set i (.ag [.sc (.int .i64 tm), .sc (.int .i64 ct), .sc u, .sc (.string it), .sc (.string tx)])))) (kk := 1) (es := ints ck) (u := u) (by simp) (by simp) (by simp) (by omega) (by simp) (by simp [Root.node, PV.own, hi]) (by simp [Root.node, PV.get, hi]) ?_⟩
    refine AW.forget [(0, .pt 100000000 [] 0), (4, .c (.sc (.int .i64 (N : Int)))), (5, .rf 14000 []), (33, .c (.sc (.int .i64 6)))] [(14000, .sv (.sl false 5 (edts false l))), (100000000, .bx (curP code a4 s4))] ⟨by simp, by simp [Root.put, PV.set, hi, hsX], by simp⟩ ?_
    clear hsX
    repeat' (first | with_reducible refine OutOK.done ?_ | refine thenQ_n ?_ | refine thenQ_r ?_ | refine thenQ_e ?_ | refine AW.seq ?_ | refine AW.dtreeJ tok mixed [] [(4, [1]), (6, [1])] (.chk [(0, false), (2, false), (3, false), (5, false), (1, false), (4, false)] [1] (.chk [(6, false)] [1] (.leaf [(7, false), (8, false)]))) (by decide +kernel) rfl (st2 := ?_) ?_ ?_ | with_reducible exact eqSt _ | with_reducible refine ForkQ.mk ?_ ?_ | with_reducible refine ChkQ.mk (by simp [*, watchB, WatchAll]) ?_ | refine OutT.chk (by simp [*]; rfl) ?_ | refine OutT.leaf (by simp [*]; rfl) ?_ | refine OutT.fork (by simp [*]; rfl) ?_ | refine AW.reg tok (by simp [*]; rfl) ?_ | refine AW.ifB (by simp [*]; rfl) ?_ | refine IfG.t ?_ | refine IfG.f ?_ | ((first | refine IfG.p (fun hg => ?_) (fun hg => ?_) | refine IfG.n (fun hg => ?_) (fun hg => ?_) | refine OutOK.gateP (fun hg => ?_) (fun hg => ?_) | refine OutOK.gateN (fun hg => ?_) (fun hg => ?_) | refine IfG.g (fun hg => ?_) (fun hg => ?_) | refine OutOK.gate (fun hg => ?_) (fun hg => ?_)) <;> (try (have hg' := hg; simp at hg'))) | refine OutOK.run (by simp [*]; rfl) ?_ | refine AW.ret ?_ | refine AW.skip ?_ | refine AW.exit ?_ | refine fin_r ?_ | refine fin_n ?_ | refine AW.block ?_ | refine blockQ_n ?_ | refine blockQ_r ?_ | refine blockQ_e ?_ | refine blockQ_o rfl ?_)
    have hq4 := q4
    have h8 : (N : Int) * 8 ≤ 140737488355328 := by omega
    have h9 : (N : Int) ≤ 4611686018427387904 := by omega
    clear hset hset2 he hW g1 g2 g3 hu hne q4
    refine AW.loopS (α := Int × Int × List Edt × Nat) (fun q => a4 ≤ q.1 ∧ q.1 ≤ a4 + 2 * (q.2.2.2 : Int) ∧ q.2.2.2 ≤ 26 ∧ q.2.2.1.length ≤ 25 ∧ Hd (HOK N q.2.2.1)) (fun q => [(0, .pt 100000000 [] 0), (4, .c (.sc (.int .i64 (N : Int)))), (5, .rf 14000 []), (8, .c (.sc (.int .i64 (q.2.2.2 : Int))))])
      (fun q => [(14000, .sv (.sl false 5 (edts false q.2.2.1))), (100000000, .bx (curP code q.1 q.2.1))]) (fun q => 26 - q.2.2.2) (a4, s4, l, 0) ⟨by simp, by simp, by simp only; ((try clear e1); (try clear e2); omega), by simp only; ((try clear e1); (try clear e2); omega), hq4⟩ [] (by simp) ⟨by simp, by simp, by simp⟩ ?_
    clear hq4 q3 hl hi r3
    rintro ⟨a5, s5, m, j⟩ ⟨u1, u2, u3, u4, u5⟩
    simp only at u1 u2 u3 u4 u5
    repeat' (first | with_reducible refine OutOK.done ?_ | refine thenQ_n ?_ | refine thenQ_r ?_ | refine thenQ_e ?_ | refine AW.seq ?_ | refine AW.dtreeJ tok mixed [] [(4, [1]), (6, [1])] (.chk [(0, false), (2, false), (3, false), (5, false), (1, false), (4, false)] [1] (.chk [(6, false)] [1] (.leaf [(7, false), (8, false)]))) (by decide +kernel) rfl (st2 := ?_) ?_ ?_ | with_reducible exact eqSt _ | with_reducible refine ForkQ.mk ?_ ?_ | with_reducible refine ChkQ.mk (by simp [*, watchB, WatchAll]) ?_ | refine OutT.chk (by simp [*]; rfl) ?_ | refine OutT.leaf (by simp [*]; rfl) ?_ | refine OutT.fork (by simp [*]; rfl) ?_ | refine AW.reg tok (by simp [*]; rfl) ?_ | refine AW.ifB (by simp [*]; rfl) ?_ | refine IfG.t ?_ | refine IfG.f ?_ | ((first | refine IfG.p (fun hg => ?_) (fun hg => ?_) | refine IfG.n (fun hg => ?_) (fun hg => ?_) | refine OutOK.gateP (fun hg => ?_) (fun hg => ?_) | refine OutOK.gateN (fun hg => ?_) (fun hg => ?_) | refine IfG.g (fun hg => ?_) (fun hg => ?_) | refine OutOK.gate (fun hg => ?_) (fun hg => ?_)) <;> (try (have hg' := hg; simp at hg'))) | refine OutOK.run (by simp [*]; rfl) ?_ | refine AW.ret ?_ | refine AW.skip ?_ | refine AW.exit ?_ | refine fin_r ?_ | refine fin_n ?_ | refine AW.block ?_ | refine blockQ_n ?_ | refine blockQ_r ?_ | refine blockQ_e ?_ | refine blockQ_o rfl ?_)
    refine OutOK.callX [] (by simp [*]; rfl) (by simp [*]; rfl) (by simp [*]; rfl) hb108 (by apply x_pickN4 <;> first | assumption | exact Hd.out (by assumption) | ((try clear e1); (try clear e2); omega)) ⟨by simp [*], by simp [*], by simp [*]⟩ (by simp [*]) (fun x hx => ?_)
    obtain ⟨a6, s6, k6⟩ := x
    simp only at hx
    obtain ⟨z1, z2, z3⟩ := hx
    obtain ⟨z, hz, e1⟩ : ∃ z : Nat, z ≤ 25 ∧ wrap64 (24 + (k6 : Int)) = (z : Int) := ⟨24 + k6, by ((try clear e1); (try clear e2); omega), by rw [w64 (by ((try clear e1); (try clear e2); omega)) (by ((try clear e1); (try clear e2); omega))]; ((try clear e1); (try clear e2); omega)⟩
    clear z3
    rcases Nat.lt_or_ge m.length z with hmz | hmz
    · have hmI : (m.length : Int) < (z : Int) := by ((try clear e1); (try clear e2); omega)
      rcases Nat.lt_or_ge j 26 with hj | hj
      · have hjI : (j : Int) < 26 := by ((try clear e1); (try clear e2); omega)
        have e2 : wrap64 ((j : Int) + 1) = ((j + 1 : Nat) : Int) := by rw [w64 (by ((try clear e1); (try clear e2); omega)) (by ((try clear e1); (try clear e2); omega))]; omega
        have hck : ∀ e ∈ m, e.ck.length = N := fun e he => (u5.out e he).1
        have hmk := mkN_ck (T := 0) (seen := List.replicate N 0) (item := ⟨#[112, 105, 116]⟩) (text := ⟨#[120]⟩) hck
        have cm := c_spec_l22Make m N 0 (List.replicate N 0) ⟨#[112, 105, 116]⟩ ⟨#[120]⟩ (by ((try clear e1); (try clear e2); omega)) hN (by ((try clear e1); (try clear e2); omega)) (by simp) hck (by have := cntE_le m ((0 : Nat) : Int); ((try clear e1); (try clear e2); omega))
        have hfin : Hd (HOK N (putL m (mkN m N 0 (List.replicate N 0) ⟨#[112, 105, 116]⟩ ⟨#[120]⟩))) := HOK_put u5.out ⟨hmk, (by have : (⟨#[112, 105, 116]⟩ : ByteArray).size ≤ 1000 := (by decide); exact this), (by have : (⟨#[120]⟩ : ByteArray).size ≤ 1000 := (by decide); exact this)⟩
        have hlen : Hd ((putL m (mkN m N 0 (List.replicate N 0) ⟨#[112, 105, 116]⟩ ⟨#[120]⟩)).length = m.length + 1) := putL_len _ _
        have cp := c_spec_l22Put m (mkN m N 0 (List.replicate N 0) ⟨#[112, 105, 116]⟩ ⟨#[120]⟩) (by ((try clear e1); (try clear e2); omega)) (fun e he => by have := hck e he; ((try clear e1); (try clear e2); omega)) (by ((try clear e1); (try clear e2); omega))
        clear hck hmk
        simp only [show ((0 : Nat) : Int) = 0 from rfl] at cm
        generalize putL m (mkN m N 0 (List.replicate N 0) ⟨#[112, 105, 116]⟩ ⟨#[120]⟩) = PL at *
        generalize mkN m N 0 (List.replicate N 0) ⟨#[112, 105, 116]⟩ ⟨#[120]⟩ = M at *
        obtain ⟨d1, d2, d3, d4, d5⟩ := M
        refine CallX.mk' ⟨by simp [*], by simp [*], by simp [*], by simp [*], by simp [*]⟩ (by simp [*]; rfl) ?_
        repeat' (first | with_reducible refine OutOK.done ?_ | refine thenQ_n ?_ | refine thenQ_r ?_ | refine thenQ_e ?_ | refine AW.seq ?_ | refine AW.dtreeJ tok mixed [] [(4, [1]), (6, [1])] (.chk [(0, false), (2, false), (3, false), (5, false), (1, false), (4, false)] [1] (.chk [(6, false)] [1] (.leaf [(7, false), (8, false)]))) (by decide +kernel) rfl (st2 := ?_) ?_ ?_ | with_reducible exact eqSt _ | with_reducible refine ForkQ.mk ?_ ?_ | with_reducible refine ChkQ.mk (by simp [*, watchB, WatchAll]) ?_ | refine OutT.chk (by simp [*]; rfl) ?_ | refine OutT.leaf (by simp [*]; rfl) ?_ | refine OutT.fork (by simp [*]; rfl) ?_ | refine AW.reg tok (by simp [*]; rfl) ?_ | refine AW.ifB (by simp [*]; rfl) ?_ | refine IfG.t ?_ | refine IfG.f ?_ | ((first | refine IfG.p (fun hg => ?_) (fun hg => ?_) | refine IfG.n (fun hg => ?_) (fun hg => ?_) | refine OutOK.gateP (fun hg => ?_) (fun hg => ?_) | refine OutOK.gateN (fun hg => ?_) (fun hg => ?_) | refine IfG.g (fun hg => ?_) (fun hg => ?_) | refine OutOK.gate (fun hg => ?_) (fun hg => ?_)) <;> (try (have hg' := hg; simp at hg'))) | (refine OutOK.callF [] (by simp [*]; rfl) (by simp [*]; rfl) (by simp [*]; rfl) hb103 (by apply cm <;> first | assumption | exact Hd.out (by assumption) | ((try clear e1); (try clear e2); omega)) ⟨by simp [*], by simp [*], by simp [*], by simp [*], by simp [*]⟩ (by simp [*]) (by simp [*]; rfl) ?_) | (refine OutOK.callF [] (by simp [*]; rfl) (by simp [*]; rfl) (by simp [*]; rfl) hb100 (by apply cp <;> first | assumption | exact Hd.out (by assumption) | ((try clear e1); (try clear e2); omega)) ⟨by simp [*], by simp [*], by simp [*], by simp [*], by simp [*]⟩ (by simp [*]) (by simp [*]; rfl) ?_) | refine OutOK.run (by simp [*]; rfl) ?_ | refine AW.ret ?_ | refine AW.skip ?_ | refine AW.exit ?_ | refine fin_r ?_ | refine fin_n ?_ | refine AW.block ?_ | refine blockQ_n ?_ | refine blockQ_r ?_ | refine blockQ_e ?_ | refine blockQ_o rfl ?_)
        exact ⟨(a6, s6, PL, j + 1), ⟨by simp only; ((try clear e1); (try clear e2); omega), by simp only; ((try clear e1); (try clear e2); omega), by simp only; ((try clear e1); (try clear e2); omega), by have := hlen.out; simp only; ((try clear e1); (try clear e2); omega), hfin⟩, ⟨[(95000, 14000)], by simp, by simp, by simp, by simp⟩, by simp only; ((try clear e1); (try clear e2); omega)⟩
      · have hjI : ¬ (j : Int) < 26 := by ((try clear e1); (try clear e2); omega)
        refine CallX.mk' ⟨by simp [*], by simp [*], by simp [*], by simp [*], by simp [*]⟩ (by simp [*]; rfl) ?_
        repeat' (first | with_reducible refine OutOK.done ?_ | refine thenQ_n ?_ | refine thenQ_r ?_ | refine thenQ_e ?_ | refine AW.seq ?_ | refine AW.dtreeJ tok mixed [] [(4, [1]), (6, [1])] (.chk [(0, false), (2, false), (3, false), (5, false), (1, false), (4, false)] [1] (.chk [(6, false)] [1] (.leaf [(7, false), (8, false)]))) (by decide +kernel) rfl (st2 := ?_) ?_ ?_ | with_reducible exact eqSt _ | with_reducible refine ForkQ.mk ?_ ?_ | with_reducible refine ChkQ.mk (by simp [*, watchB, WatchAll]) ?_ | refine OutT.chk (by simp [*]; rfl) ?_ | refine OutT.leaf (by simp [*]; rfl) ?_ | refine OutT.fork (by simp [*]; rfl) ?_ | refine AW.reg tok (by simp [*]; rfl) ?_ | refine AW.ifB (by simp [*]; rfl) ?_ | refine IfG.t ?_ | refine IfG.f ?_ | ((first | refine IfG.p (fun hg => ?_) (fun hg => ?_) | refine IfG.n (fun hg => ?_) (fun hg => ?_) | refine OutOK.gateP (fun hg => ?_) (fun hg => ?_) | refine OutOK.gateN (fun hg => ?_) (fun hg => ?_) | refine IfG.g (fun hg => ?_) (fun hg => ?_) | refine OutOK.gate (fun hg => ?_) (fun hg => ?_)) <;> (try (have hg' := hg; simp at hg'))) | refine OutOK.run (by simp [*]; rfl) ?_ | refine AW.ret ?_ | refine AW.skip ?_ | refine AW.exit ?_ | refine fin_r ?_ | refine fin_n ?_ | refine AW.block ?_ | refine blockQ_n ?_ | refine blockQ_r ?_ | refine blockQ_e ?_ | refine blockQ_o rfl ?_)
        exact ⟨(a6, s6, m, (N : Int)), ⟨by simp only; ((try clear e1); (try clear e2); omega), by simp only; ((try clear e1); (try clear e2); omega), by simp only; ((try clear e1); (try clear e2); omega), HOK.w u5.out hN, by simp only; ((try clear e1); (try clear e2); omega), by simp only; ((try clear e1); (try clear e2); omega)⟩, by simp [Try.f105]⟩
    · have hmI : ¬ (m.length : Int) < (z : Int) := by ((try clear e1); (try clear e2); omega)
      refine CallX.mk' ⟨by simp [*], by simp [*], by simp [*], by simp [*], by simp [*]⟩ (by simp [*]; rfl) ?_
      repeat' (first | with_reducible refine OutOK.done ?_ | refine thenQ_n ?_ | refine thenQ_r ?_ | refine thenQ_e ?_ | refine AW.seq ?_ | refine AW.dtreeJ tok mixed [] [(4, [1]), (6, [1])] (.chk [(0, false), (2, false), (3, false), (5, false), (1, false), (4, false)] [1] (.chk [(6, false)] [1] (.leaf [(7, false), (8, false)]))) (by decide +kernel) rfl (st2 := ?_) ?_ ?_ | with_reducible exact eqSt _ | with_reducible refine ForkQ.mk ?_ ?_ | with_reducible refine ChkQ.mk (by simp [*, watchB, WatchAll]) ?_ | refine OutT.chk (by simp [*]; rfl) ?_ | refine OutT.leaf (by simp [*]; rfl) ?_ | refine OutT.fork (by simp [*]; rfl) ?_ | refine AW.reg tok (by simp [*]; rfl) ?_ | refine AW.ifB (by simp [*]; rfl) ?_ | refine IfG.t ?_ | refine IfG.f ?_ | ((first | refine IfG.p (fun hg => ?_) (fun hg => ?_) | refine IfG.n (fun hg => ?_) (fun hg => ?_) | refine OutOK.gateP (fun hg => ?_) (fun hg => ?_) | refine OutOK.gateN (fun hg => ?_) (fun hg => ?_) | refine IfG.g (fun hg => ?_) (fun hg => ?_) | refine OutOK.gate (fun hg => ?_) (fun hg => ?_)) <;> (try (have hg' := hg; simp at hg'))) | refine OutOK.run (by simp [*]; rfl) ?_ | refine AW.ret ?_ | refine AW.skip ?_ | refine AW.exit ?_ | refine fin_r ?_ | refine fin_n ?_ | refine AW.block ?_ | refine blockQ_n ?_ | refine blockQ_r ?_ | refine blockQ_e ?_ | refine blockQ_o rfl ?_)
      exact ⟨(a6, s6, m, (N : Int)), ⟨by simp only; ((try clear e1); (try clear e2); omega), by simp only; ((try clear e1); (try clear e2); omega), by simp only; ((try clear e1); (try clear e2); omega), HOK.w u5.out hN, by simp only; ((try clear e1); (try clear e2); omega), by simp only; ((try clear e1); (try clear e2); omega)⟩, by simp [Try.f105]⟩
  have w6 : ¬ (v : Int) = 6 := by omega
  refine ⟨AW.join 9000 7000 600000 [2] (r := .bx [.sc (.int .i64 tm), .sc (.int .i64 ct), .sc u, .sc (.string it), .sc (.string tx)]) (kk := 1) (es := ints ck) (u := u) (by simp) (by simp) (by simp) (by omega) (by simp) (by simp [Root.node, PV.own]) (by simp [Root.node, PV.get]) ?_⟩
  refine AW.forget [(0, .pt 100000000 [] 0), (4, .c (.sc (.int .i64 (N : Int)))), (5, .rf 14000 []), (6, .c (.sc (.int .i64 (i : Int)))), (7, .pt 7000 [] 0), (33, .c (.sc (.int .i64 (v : Int))))] [(7000, .bx [.sc (.int .i64 tm), .sc (.int .i64 ct), .sl false 1 (ints ck), .sc (.string it), .sc (.string tx)]), (14000, .sv (.sl false 5 ((edts false l).set i (.ag [.sc (.int .i64 tm), .sc (.int .i64 ct), .sc u, .sc (.string it), .sc (.string tx)])))), (100000000, .bx (curP code a4 s4))] ⟨by simp, by simp [Root.put, PV.set], by simp⟩ ?_
  repeat' (first | with_reducible refine OutOK.done ?_ | refine thenQ_n ?_ | refine thenQ_r ?_ | refine thenQ_e ?_ | refine AW.seq ?_ | refine AW.dtreeJ tok mixed [] [(4, [1]), (6, [1])] (.chk [(0, false), (2, false), (3, false), (5, false), (1, false), (4, false)] [1] (.chk [(6, false)] [1] (.leaf [(7, false), (8, false)]))) (by decide +kernel) rfl (st2 := ?_) ?_ ?_ | with_reducible exact eqSt _ | with_reducible refine ForkQ.mk ?_ ?_ | with_reducible refine ChkQ.mk (by simp [*, watchB, WatchAll]) ?_ | refine OutT.chk (by simp [*]; rfl) ?_ | refine OutT.leaf (by simp [*]; rfl) ?_ | refine OutT.fork (by simp [*]; rfl) ?_ | refine AW.reg tok (by simp [*]; rfl) ?_ | refine AW.ifB (by simp [*]; rfl) ?_ | refine IfG.t ?_ | refine IfG.f ?_ | ((first | refine IfG.p (fun hg => ?_) (fun hg => ?_) | refine IfG.n (fun hg => ?_) (fun hg => ?_) | refine OutOK.gateP (fun hg => ?_) (fun hg => ?_) | refine OutOK.gateN (fun hg => ?_) (fun hg => ?_) | refine IfG.g (fun hg => ?_) (fun hg => ?_) | refine OutOK.gate (fun hg => ?_) (fun hg => ?_)) <;> (try (have hg' := hg; simp at hg'))) | refine OutOK.run (by simp [*]; rfl) ?_ | refine AW.ret ?_ | refine AW.skip ?_ | refine AW.exit ?_ | refine fin_r ?_ | refine fin_n ?_ | refine AW.block ?_ | refine blockQ_n ?_ | refine blockQ_r ?_ | refine blockQ_e ?_ | refine blockQ_o rfl ?_)
  have hs := hset2.out ⟨tm, ct, ck, it, tx⟩
  simp only [edtC] at hs
  exact ⟨(a4, s4, l.set i ⟨tm, ct, ck, it, tx⟩, (N : Int)), ⟨by simp only; ((try clear e1); (try clear e2); omega), by simp only; ((try clear e1); (try clear e2); omega), by simp; ((try clear e1); (try clear e2); omega), HOW_set hW.out ⟨(by have := g1.out; simp only; ((try clear e1); (try clear e2); omega)), g2, g3⟩, by simp only; ((try clear e1); (try clear e2); omega), by simp only; ((try clear e1); (try clear e2); omega)⟩, by simp [Try.f105, hs]⟩
end Go.Proofs.Ytbofobjofngoeaa.EngS


set_option linter.unusedSimpArgs false
set_option linter.unusedVariables false
set_option maxHeartbeats 4000000
set_option maxRecDepth 100000
namespace Go.Proofs.Ytbofobjofngoeaa.EngS
open Go Go.Proofs Go.Eng Go.RowKit
theorem x_spec_DrawKnownBy (code : List Int) (hc : code.length ≤ 9223372036854775807) (hb : BytesOK code) :
    ACallX Try.prog 56 [.v (.sl true 1 (bys code))] (fun x : List Edt × Int × Int => x.1.length ≤ 26 ∧ ∀ e ∈ x.1, EdtB e) (fun _ => [.x]) (fun x => [.v (.sl false 5 (edts false x.1)), int x.2.1, int x.2.2]) := by
  refine ACallX.of (N := 24) tok Try.func56 rfl rfl rfl (by simp) ?_
  repeat' (first | with_reducible refine OutOK.done ?_ | refine thenQ_n ?_ | refine thenQ_r ?_ | refine thenQ_e ?_ | refine AW.seq ?_ | refine AW.reg tok (by simp [*]; rfl) ?_ | refine AW.ifB (by simp [*]; rfl) ?_ | refine IfG.t ?_ | refine IfG.f ?_ | ((first | refine IfG.p (fun hg => ?_) (fun hg => ?_) | refine IfG.n (fun hg => ?_) (fun hg => ?_) | refine OutOK.gateP (fun hg => ?_) (fun hg => ?_) | refine OutOK.gateN (fun hg => ?_) (fun hg => ?_) | refine IfG.g (fun hg => ?_) (fun hg => ?_) | refine OutOK.gate (fun hg => ?_) (fun hg => ?_)) <;> (try (have hg' := hg; simp at hg'))) | refine OutOK.run (by simp [*]; rfl) ?_ | refine AW.ret ?_ | refine AW.skip ?_ | refine AW.exit ?_ | refine fin_r ?_ | refine fin_n ?_ | refine AW.block ?_ | refine blockQ_n ?_ | refine blockQ_r ?_ | refine blockQ_e ?_ | refine blockQ_o rfl ?_)
  refine OutOK.callX [] (by simp [*]; rfl) (by simp [*]; rfl) (by simp [*]; rfl) hb105 (by apply x_any <;> first | assumption | exact Hd.out (by assumption) | omega) ⟨by simp [*], by simp [*], by simp [*]⟩ (by simp [*]) (fun x hx => ?_)
  obtain ⟨a1, s1, l, n⟩ := x
  obtain ⟨p1, p2, p3, p4, p5, p6⟩ := hx
  simp only at p1 p2 p3 p4 p5 p6
  replace p4 : Hd _ := p4
  refine CallX.mk' ⟨by simp [*], by simp [*], by simp [*], by simp [*], by simp [*]⟩ (by simp [*]; rfl) ?_
  repeat' (first | with_reducible refine OutOK.done ?_ | refine thenQ_n ?_ | refine thenQ_r ?_ | refine thenQ_e ?_ | refine AW.seq ?_ | refine AW.reg tok (by simp [*]; rfl) ?_ | refine AW.ifB (by simp [*]; rfl) ?_ | refine IfG.t ?_ | refine IfG.f ?_ | ((first | refine IfG.p (fun hg => ?_) (fun hg => ?_) | refine IfG.n (fun hg => ?_) (fun hg => ?_) | refine OutOK.gateP (fun hg => ?_) (fun hg => ?_) | refine OutOK.gateN (fun hg => ?_) (fun hg => ?_) | refine IfG.g (fun hg => ?_) (fun hg => ?_) | refine OutOK.gate (fun hg => ?_) (fun hg => ?_)) <;> (try (have hg' := hg; simp at hg'))) | refine OutOK.run (by simp [*]; rfl) ?_ | refine AW.ret ?_ | refine AW.skip ?_ | refine AW.exit ?_ | refine fin_r ?_ | refine fin_n ?_ | refine AW.block ?_ | refine blockQ_n ?_ | refine blockQ_r ?_ | refine blockQ_e ?_ | refine blockQ_o rfl ?_)
  refine OutOK.callX [] (by simp [*]; rfl) (by simp [*]; rfl) (by simp [*]; rfl) hb108 (by apply x_pickN4 <;> first | assumption | exact Hd.out (by assumption) | omega) ⟨by simp [*], by simp [*], by simp [*]⟩ (by simp [*]) (fun x hx => ?_)
  obtain ⟨a2, s2, v⟩ := x
  simp only at hx
  obtain ⟨q1, q2, q3⟩ := hx
  refine CallX.mk' ⟨by simp [*], by simp [*], by simp [*], by simp [*], by simp [*]⟩ (by simp [*]; rfl) ?_
  repeat' (first | with_reducible refine OutOK.done ?_ | refine thenQ_n ?_ | refine thenQ_r ?_ | refine thenQ_e ?_ | refine AW.seq ?_ | refine AW.reg tok (by simp [*]; rfl) ?_ | refine AW.ifB (by simp [*]; rfl) ?_ | refine IfG.t ?_ | refine IfG.f ?_ | ((first | refine IfG.p (fun hg => ?_) (fun hg => ?_) | refine IfG.n (fun hg => ?_) (fun hg => ?_) | refine OutOK.gateP (fun hg => ?_) (fun hg => ?_) | refine OutOK.gateN (fun hg => ?_) (fun hg => ?_) | refine IfG.g (fun hg => ?_) (fun hg => ?_) | refine OutOK.gate (fun hg => ?_) (fun hg => ?_)) <;> (try (have hg' := hg; simp at hg'))) | refine OutOK.run (by simp [*]; rfl) ?_ | refine AW.ret ?_ | refine AW.skip ?_ | refine AW.exit ?_ | refine fin_r ?_ | refine fin_n ?_ | refine AW.block ?_ | refine blockQ_n ?_ | refine blockQ_r ?_ | refine blockQ_e ?_ | refine blockQ_o rfl ?_)
  refine OutOK.callX [] (by simp [*]; rfl) (by simp [*]; rfl) (by simp [*]; rfl) hb108 (by apply x_pickN4 <;> first | assumption | exact Hd.out (by assumption) | omega) ⟨by simp [*], by simp [*], by simp [*]⟩ (by simp [*]) (fun x hx => ?_)
  obtain ⟨a3, s3, u⟩ := x
  simp only at hx
  obtain ⟨r1, r2, r3⟩ := hx
  obtain ⟨z, hz⟩ : ∃ z, wrap64 ((v : Int) - wrap64 ((u : Int) / 8)) = z := ⟨_, rfl⟩
  refine CallX.mk' ⟨by simp [*], by simp [*], by simp [*], by simp [*], by simp [*]⟩ (by simp [*]; rfl) ?_
  repeat' (first | with_reducible refine OutOK.done ?_ | refine thenQ_n ?_ | refine thenQ_r ?_ | refine thenQ_e ?_ | refine AW.seq ?_ | refine AW.reg tok (by simp [*]; rfl) ?_ | refine AW.ifB (by simp [*]; rfl) ?_ | refine IfG.t ?_ | refine IfG.f ?_ | ((first | refine IfG.p (fun hg => ?_) (fun hg => ?_) | refine IfG.n (fun hg => ?_) (fun hg => ?_) | refine OutOK.gateP (fun hg => ?_) (fun hg => ?_) | refine OutOK.gateN (fun hg => ?_) (fun hg => ?_) | refine IfG.g (fun hg => ?_) (fun hg => ?_) | refine OutOK.gate (fun hg => ?_) (fun hg => ?_)) <;> (try (have hg' := hg; simp at hg'))) | refine OutOK.run (by simp [*]; rfl) ?_ | refine AW.ret ?_ | refine AW.skip ?_ | refine AW.exit ?_ | refine fin_r ?_ | refine fin_n ?_ | refine AW.block ?_ | refine blockQ_n ?_ | refine blockQ_r ?_ | refine blockQ_e ?_ | refine blockQ_o rfl ?_)
  exact ⟨(l, n, z), ⟨p3, HOW.b p4.out⟩, by simp [Try.f56]⟩
def mhP (x : List Edt × List Edt × Int) : Prop := (x.1.length ≤ 26 ∧ ∀ e ∈ x.1, EdtB e) ∧ x.2.1.length ≤ 26 ∧ ∀ e ∈ x.2.1, EdtB e
theorem x_spec_DrawMergeHistories (code : List Int) (hc : code.length ≤ 9223372036854775807) (hb : BytesOK code) :
    ACallX Try.prog 54 [.v (.sl true 1 (bys code))] mhP (fun _ => [.x]) (fun x => [.v (.sl false 5 (edts false x.1)), .v (.sl false 5 (edts false x.2.1)), int x.2.2]) := by
  have ch := fun (a s : Int) h0 h1 => x_spec_l1Cur_history code a s 2 (by decide) (by decide) h0 h1 hc hb
  simp only [show ((2 : Nat) : Int) = 2 from rfl] at ch
  refine ACallX.of (N := 75) tok Try.func54 rfl rfl rfl (by simp) ?_
  repeat' (first | with_reducible refine OutOK.done ?_ | refine thenQ_n ?_ | refine thenQ_r ?_ | refine thenQ_e ?_ | refine AW.seq ?_ | refine AW.reg tok (by simp [*]; rfl) ?_ | refine AW.ifB (by simp [*]; rfl) ?_ | refine IfG.t ?_ | refine IfG.f ?_ | ((first | refine IfG.p (fun hg => ?_) (fun hg => ?_) | refine IfG.n (fun hg => ?_) (fun hg => ?_) | refine OutOK.gateP (fun hg => ?_) (fun hg => ?_) | refine OutOK.gateN (fun hg => ?_) (fun hg => ?_) | refine IfG.g (fun hg => ?_) (fun hg => ?_) | refine OutOK.gate (fun hg => ?_) (fun hg => ?_)) <;> (try (have hg' := hg; simp at hg'))) | refine OutOK.run (by simp [*]; rfl) ?_ | refine AW.ret ?_ | refine AW.skip ?_ | refine AW.exit ?_ | refine fin_r ?_ | refine fin_n ?_ | refine AW.block ?_ | refine blockQ_n ?_ | refine blockQ_r ?_ | refine blockQ_e ?_ | refine blockQ_o rfl ?_)
  refine OutOK.callX [] (by simp [*]; rfl) (by simp [*]; rfl) (by simp [*]; rfl) hb105 (by apply x_any <;> first | assumption | exact Hd.out (by assumption) | omega) ⟨by simp [*], by simp [*], by simp [*]⟩ (by simp [*]) (fun x hx => ?_)
  obtain ⟨a1, s1, l, n⟩ := x
  obtain ⟨p1, p2, p3, p4, p5, p6⟩ := hx
  simp only at p1 p2 p3 p4 p5 p6
  have hlb : Hd (∀ e ∈ l, EdtB e) := HOW.b p4
  have cg := c_spec_l22Good l n (by omega) (fun e he => (hlb.out e he).w)
  cases hh : hist l n
  · rw [hh] at cg
    clear hh p4
    refine CallX.mk' ⟨by simp [*], by simp [*], by simp [*], by simp [*], by simp [*]⟩ (by simp [*]; rfl) ?_
    repeat' (first | with_reducible refine OutOK.done ?_ | refine thenQ_n ?_ | refine thenQ_r ?_ | refine thenQ_e ?_ | refine AW.seq ?_ | refine AW.reg tok (by simp [*]; rfl) ?_ | refine AW.ifB (by simp [*]; rfl) ?_ | refine IfG.t ?_ | refine IfG.f ?_ | ((first | refine IfG.p (fun hg => ?_) (fun hg => ?_) | refine IfG.n (fun hg => ?_) (fun hg => ?_) | refine OutOK.gateP (fun hg => ?_) (fun hg => ?_) | refine OutOK.gateN (fun hg => ?_) (fun hg => ?_) | refine IfG.g (fun hg => ?_) (fun hg => ?_) | refine OutOK.gate (fun hg => ?_) (fun hg => ?_)) <;> (try (have hg' := hg; simp at hg'))) | (refine OutOK.callF [] (by simp [*]; rfl) (by simp [*]; rfl) (by simp [*]; rfl) hb74 (by apply cg <;> first | assumption | exact Hd.out (by assumption) | omega) ⟨by simp [*], by simp [*], by simp [*], by simp [*], by simp [*]⟩ (by simp [*]) (by simp [*]; rfl) ?_) | refine OutOK.run (by simp [*]; rfl) ?_ | refine AW.ret ?_ | refine AW.skip ?_ | refine AW.exit ?_ | refine fin_r ?_ | refine fin_n ?_ | refine AW.block ?_ | refine blockQ_n ?_ | refine blockQ_r ?_ | refine blockQ_e ?_ | refine blockQ_o rfl ?_)
    refine OutOK.callX [] (by simp [*]; rfl) (by simp [*]; rfl) (by simp [*]; rfl) hb107 (by apply ch <;> first | assumption | exact Hd.out (by assumption) | omega) ⟨by simp [*], by simp [*], by simp [*]⟩ (by simp [*]) (fun x hx => ?_)
    obtain ⟨a2, s2, m⟩ := x
    simp only at hx
    obtain ⟨q1, q2, q3, q4⟩ := hx
    have hmb : Hd (∀ e ∈ m, EdtB e) := HOW.b (HOK.w q4 (by decide))
    clear q4 ch
    refine CallX.mk' ⟨by simp [*], by simp [*], by simp [*], by simp [*], by simp [*]⟩ (by simp [*]; rfl) ?_
    repeat' (first | with_reducible refine OutOK.done ?_ | refine thenQ_n ?_ | refine thenQ_r ?_ | refine thenQ_e ?_ | refine AW.seq ?_ | refine AW.reg tok (by simp [*]; rfl) ?_ | refine AW.ifB (by simp [*]; rfl) ?_ | refine IfG.t ?_ | refine IfG.f ?_ | ((first | refine IfG.p (fun hg => ?_) (fun hg => ?_) | refine IfG.n (fun hg => ?_) (fun hg => ?_) | refine OutOK.gateP (fun hg => ?_) (fun hg => ?_) | refine OutOK.gateN (fun hg => ?_) (fun hg => ?_) | refine IfG.g (fun hg => ?_) (fun hg => ?_) | refine OutOK.gate (fun hg => ?_) (fun hg => ?_)) <;> (try (have hg' := hg; simp at hg'))) | refine OutOK.run (by simp [*]; rfl) ?_ | refine AW.ret ?_ | refine AW.skip ?_ | refine AW.exit ?_ | refine fin_r ?_ | refine fin_n ?_ | refine AW.block ?_ | refine blockQ_n ?_ | refine blockQ_r ?_ | refine blockQ_e ?_ | refine blockQ_o rfl ?_)
    exact ⟨(l, m, n), ⟨⟨p3, hlb.out⟩, by simp only; omega, hmb.out⟩, by simp [Try.f54]⟩
  · have hn := inR_iff.1 (hist_iff'.1 hh).nn
    have ck := fun t => c_spec_KnownBy l n t (by omega) hlb.out
    have hk : ∀ t, (knwR l n t).length ≤ 26 ∧ ∀ e ∈ knwR l n t, EdtB e := fun t => by
      have hsub : ∀ e ∈ knwR l n t, e ∈ l := by
        intro e he
        unfold knwR at he
        split at he
        · unfold knwL at he
          split at he
          · simp at he
          · exact (List.mem_filter.1 he).1
        · simp at he
      refine ⟨?_, fun e he => hlb.out e (hsub e he)⟩
      unfold knwR
      split
      · unfold knwL
        split
        · simp
        · exact Nat.le_trans (List.length_filter_le _ _) p3
      · simp
    have ck' : Hd _ := ck
    have hk' : Hd _ := hk
    rw [hh] at cg
    clear hh p4 ck hk
    have cq := fun (a s : Int) h0 h1 => x_pickN4 code a s n h0 h1 hc hb (by omega) (by omega)
    refine CallX.mk' ⟨by simp [*], by simp [*], by simp [*], by simp [*], by simp [*]⟩ (by simp [*]; rfl) ?_
    repeat' (first | with_reducible refine OutOK.done ?_ | refine thenQ_n ?_ | refine thenQ_r ?_ | refine thenQ_e ?_ | refine AW.seq ?_ | refine AW.reg tok (by simp [*]; rfl) ?_ | refine AW.ifB (by simp [*]; rfl) ?_ | refine IfG.t ?_ | refine IfG.f ?_ | ((first | refine IfG.p (fun hg => ?_) (fun hg => ?_) | refine IfG.n (fun hg => ?_) (fun hg => ?_) | refine OutOK.gateP (fun hg => ?_) (fun hg => ?_) | refine OutOK.gateN (fun hg => ?_) (fun hg => ?_) | refine IfG.g (fun hg => ?_) (fun hg => ?_) | refine OutOK.gate (fun hg => ?_) (fun hg => ?_)) <;> (try (have hg' := hg; simp at hg'))) | (refine OutOK.callF [] (by simp [*]; rfl) (by simp [*]; rfl) (by simp [*]; rfl) hb74 (by apply cg <;> first | assumption | exact Hd.out (by assumption) | omega) ⟨by simp [*], by simp [*], by simp [*], by simp [*], by simp [*]⟩ (by simp [*]) (by simp [*]; rfl) ?_) | refine OutOK.run (by simp [*]; rfl) ?_ | refine AW.ret ?_ | refine AW.skip ?_ | refine AW.exit ?_ | refine fin_r ?_ | refine fin_n ?_ | refine AW.block ?_ | refine blockQ_n ?_ | refine blockQ_r ?_ | refine blockQ_e ?_ | refine blockQ_o rfl ?_)
    refine OutOK.callX [] (by simp [*]; rfl) (by simp [*]; rfl) (by simp [*]; rfl) hb106 (by apply x_spec_l1Cur_one <;> first | assumption | exact Hd.out (by assumption) | omega) ⟨by simp [*], by simp [*], by simp [*]⟩ (by simp [*]) (fun x hx => ?_)
    obtain ⟨a2, s2, b⟩ := x
    simp only at hx
    obtain ⟨q1, q2⟩ := hx
    cases b
    case true =>
      refine CallX.mk' ⟨by simp [*], by simp [*], by simp [*], by simp [*], by simp [*]⟩ (by simp [*]; rfl) ?_
      repeat' (first | with_reducible refine OutOK.done ?_ | refine thenQ_n ?_ | refine thenQ_r ?_ | refine thenQ_e ?_ | refine AW.seq ?_ | refine AW.reg tok (by simp [*]; rfl) ?_ | refine AW.ifB (by simp [*]; rfl) ?_ | refine IfG.t ?_ | refine IfG.f ?_ | ((first | refine IfG.p (fun hg => ?_) (fun hg => ?_) | refine IfG.n (fun hg => ?_) (fun hg => ?_) | refine OutOK.gateP (fun hg => ?_) (fun hg => ?_) | refine OutOK.gateN (fun hg => ?_) (fun hg => ?_) | refine IfG.g (fun hg => ?_) (fun hg => ?_) | refine OutOK.gate (fun hg => ?_) (fun hg => ?_)) <;> (try (have hg' := hg; simp at hg'))) | refine OutOK.run (by simp [*]; rfl) ?_ | refine AW.ret ?_ | refine AW.skip ?_ | refine AW.exit ?_ | refine fin_r ?_ | refine fin_n ?_ | refine AW.block ?_ | refine blockQ_n ?_ | refine blockQ_r ?_ | refine blockQ_e ?_ | refine blockQ_o rfl ?_)
      refine OutOK.callX [] (by simp [*]; rfl) (by simp [*]; rfl) (by simp [*]; rfl) hb107 (by apply ch <;> first | assumption | exact Hd.out (by assumption) | omega) ⟨by simp [*], by simp [*], by simp [*]⟩ (by simp [*]) (fun x hx => ?_)
      obtain ⟨a3, s3, m⟩ := x
      simp only at hx
      obtain ⟨r1, r2, r3, r4⟩ := hx
      have hmb : Hd (∀ e ∈ m, EdtB e) := HOW.b (HOK.w r4 (by decide))
      clear r4 ch
      refine CallX.mk' ⟨by simp [*], by simp [*], by simp [*], by simp [*], by simp [*]⟩ (by simp [*]; rfl) ?_
      repeat' (first | with_reducible refine OutOK.done ?_ | refine thenQ_n ?_ | refine thenQ_r ?_ | refine thenQ_e ?_ | refine AW.seq ?_ | refine AW.reg tok (by simp [*]; rfl) ?_ | refine AW.ifB (by simp [*]; rfl) ?_ | refine IfG.t ?_ | refine IfG.f ?_ | ((first | refine IfG.p (fun hg => ?_) (fun hg => ?_) | refine IfG.n (fun hg => ?_) (fun hg => ?_) | refine OutOK.gateP (fun hg => ?_) (fun hg => ?_) | refine OutOK.gateN (fun hg => ?_) (fun hg => ?_) | refine IfG.g (fun hg => ?_) (fun hg => ?_) | refine OutOK.gate (fun hg => ?_) (fun hg => ?_)) <;> (try (have hg' := hg; simp at hg'))) | refine OutOK.run (by simp [*]; rfl) ?_ | refine AW.ret ?_ | refine AW.skip ?_ | refine AW.exit ?_ | refine fin_r ?_ | refine fin_n ?_ | refine AW.block ?_ | refine blockQ_n ?_ | refine blockQ_r ?_ | refine blockQ_e ?_ | refine blockQ_o rfl ?_)
      exact ⟨(l, m, n), ⟨⟨p3, hlb.out⟩, by simp only; omega, hmb.out⟩, by simp [Try.f54]⟩
    case false =>
      clear ch cg
      refine CallX.mk' ⟨by simp [*], by simp [*], by simp [*], by simp [*], by simp [*]⟩ (by simp [*]; rfl) ?_
      repeat' (first | with_reducible refine OutOK.done ?_ | refine thenQ_n ?_ | refine thenQ_r ?_ | refine thenQ_e ?_ | refine AW.seq ?_ | refine AW.reg tok (by simp [*]; rfl) ?_ | refine AW.ifB (by simp [*]; rfl) ?_ | refine IfG.t ?_ | refine IfG.f ?_ | ((first | refine IfG.p (fun hg => ?_) (fun hg => ?_) | refine IfG.n (fun hg => ?_) (fun hg => ?_) | refine OutOK.gateP (fun hg => ?_) (fun hg => ?_) | refine OutOK.gateN (fun hg => ?_) (fun hg => ?_) | refine IfG.g (fun hg => ?_) (fun hg => ?_) | refine OutOK.gate (fun hg => ?_) (fun hg => ?_)) <;> (try (have hg' := hg; simp at hg'))) | refine OutOK.run (by simp [*]; rfl) ?_ | refine AW.ret ?_ | refine AW.skip ?_ | refine AW.exit ?_ | refine fin_r ?_ | refine fin_n ?_ | refine AW.block ?_ | refine blockQ_n ?_ | refine blockQ_r ?_ | refine blockQ_e ?_ | refine blockQ_o rfl ?_)
      refine OutOK.callX [] (by simp [*]; rfl) (by simp [*]; rfl) (by simp [*]; rfl) hb108 (by apply cq <;> first | assumption | exact Hd.out (by assumption) | omega) ⟨by simp [*], by simp [*], by simp [*]⟩ (by simp [*]) (fun x hx => ?_)
      obtain ⟨a3, s3, ta⟩ := x
      simp only at hx
      obtain ⟨r1, r2, r3⟩ := hx
      have k1 := ck'.out (ta : Int)
      have hka := hk'.out (ta : Int)
      generalize knwR l n (ta : Int) = A at *
      generalize knwB l n (ta : Int) = BA at *
      replace hka : Hd _ := hka
      refine CallX.mk' ⟨by simp [*], by simp [*], by simp [*], by simp [*], by simp [*]⟩ (by simp [*]; rfl) ?_
      repeat' (first | with_reducible refine OutOK.done ?_ | refine thenQ_n ?_ | refine thenQ_r ?_ | refine thenQ_e ?_ | refine AW.seq ?_ | refine AW.reg tok (by simp [*]; rfl) ?_ | refine AW.ifB (by simp [*]; rfl) ?_ | refine IfG.t ?_ | refine IfG.f ?_ | ((first | refine IfG.p (fun hg => ?_) (fun hg => ?_) | refine IfG.n (fun hg => ?_) (fun hg => ?_) | refine OutOK.gateP (fun hg => ?_) (fun hg => ?_) | refine OutOK.gateN (fun hg => ?_) (fun hg => ?_) | refine IfG.g (fun hg => ?_) (fun hg => ?_) | refine OutOK.gate (fun hg => ?_) (fun hg => ?_)) <;> (try (have hg' := hg; simp at hg'))) | (refine OutOK.callF [] (by simp [*]; rfl) (by simp [*]; rfl) (by simp [*]; rfl) hb41 (by apply k1 <;> first | assumption | exact Hd.out (by assumption) | omega) ⟨by simp [*], by simp [*], by simp [*], by simp [*], by simp [*]⟩ (by simp [*]) (by simp [*]; rfl) ?_) | refine OutOK.run (by simp [*]; rfl) ?_ | refine AW.ret ?_ | refine AW.skip ?_ | refine AW.exit ?_ | refine fin_r ?_ | refine fin_n ?_ | refine AW.block ?_ | refine blockQ_n ?_ | refine blockQ_r ?_ | refine blockQ_e ?_ | refine blockQ_o rfl ?_)
      refine OutOK.callX [] (by simp [*]; rfl) (by simp [*]; rfl) (by simp [*]; rfl) hb108 (by apply cq <;> first | assumption | exact Hd.out (by assumption) | omega) ⟨by simp [*], by simp [*], by simp [*]⟩ (by simp [*]) (fun x hx => ?_)
      obtain ⟨a4, s4, tb⟩ := x
      simp only at hx
      obtain ⟨t1, t2, t3⟩ := hx
      have k2 := ck'.out (tb : Int)
      have hkb := hk'.out (tb : Int)
      clear k1 ck' hk'
      generalize knwR l n (tb : Int) = Bb at *
      generalize knwB l n (tb : Int) = BB at *
      obtain ⟨hkb1, hkb2⟩ := hkb
      replace hkb2 : Hd _ := hkb2
      rcases Nat.lt_or_ge 0 Bb.length with hbl | hbl
      · have hbI : 0 < (Bb.length : Int) := by omega
        have cB := fun (a s : Int) h0 h1 => x_pickN4 code a s (Bb.length : Int) h0 h1 hc hb (by omega) (by omega)
        refine CallX.mk' ⟨by simp [*], by simp [*], by simp [*], by simp [*], by simp [*]⟩ (by simp [*]; rfl) ?_
        repeat' (first | with_reducible refine OutOK.done ?_ | refine thenQ_n ?_ | refine thenQ_r ?_ | refine thenQ_e ?_ | refine AW.seq ?_ | refine AW.reg tok (by simp [*]; rfl) ?_ | refine AW.ifB (by simp [*]; rfl) ?_ | refine IfG.t ?_ | refine IfG.f ?_ | ((first | refine IfG.p (fun hg => ?_) (fun hg => ?_) | refine IfG.n (fun hg => ?_) (fun hg => ?_) | refine OutOK.gateP (fun hg => ?_) (fun hg => ?_) | refine OutOK.gateN (fun hg => ?_) (fun hg => ?_) | refine IfG.g (fun hg => ?_) (fun hg => ?_) | refine OutOK.gate (fun hg => ?_) (fun hg => ?_)) <;> (try (have hg' := hg; simp at hg'))) | (refine OutOK.callF [] (by simp [*]; rfl) (by simp [*]; rfl) (by simp [*]; rfl) hb41 (by apply k2 <;> first | assumption | exact Hd.out (by assumption) | omega) ⟨by simp [*], by simp [*], by simp [*], by simp [*], by simp [*]⟩ (by simp [*]) (by simp [*]; rfl) ?_) | refine OutOK.run (by simp [*]; rfl) ?_ | refine AW.ret ?_ | refine AW.skip ?_ | refine AW.exit ?_ | refine fin_r ?_ | refine fin_n ?_ | refine AW.block ?_ | refine blockQ_n ?_ | refine blockQ_r ?_ | refine blockQ_e ?_ | refine blockQ_o rfl ?_)
        refine OutOK.callX [] (by simp [*]; rfl) (by simp [*]; rfl) (by simp [*]; rfl) hb106 (by apply x_spec_l1Cur_one <;> first | assumption | exact Hd.out (by assumption) | omega) ⟨by simp [*], by simp [*], by simp [*]⟩ (by simp [*]) (fun x hx => ?_)
        obtain ⟨a5, s5, b⟩ := x
        simp only at hx
        obtain ⟨u1, u2⟩ := hx
        cases b
        · refine CallX.mk' ⟨by simp [*], by simp [*], by simp [*], by simp [*], by simp [*]⟩ (by simp [*]; rfl) ?_
          repeat' (first | with_reducible refine OutOK.done ?_ | refine thenQ_n ?_ | refine thenQ_r ?_ | refine thenQ_e ?_ | refine AW.seq ?_ | refine AW.reg tok (by simp [*]; rfl) ?_ | refine AW.ifB (by simp [*]; rfl) ?_ | refine IfG.t ?_ | refine IfG.f ?_ | ((first | refine IfG.p (fun hg => ?_) (fun hg => ?_) | refine IfG.n (fun hg => ?_) (fun hg => ?_) | refine OutOK.gateP (fun hg => ?_) (fun hg => ?_) | refine OutOK.gateN (fun hg => ?_) (fun hg => ?_) | refine IfG.g (fun hg => ?_) (fun hg => ?_) | refine OutOK.gate (fun hg => ?_) (fun hg => ?_)) <;> (try (have hg' := hg; simp at hg'))) | refine OutOK.run (by simp [*]; rfl) ?_ | refine AW.ret ?_ | refine AW.skip ?_ | refine AW.exit ?_ | refine fin_r ?_ | refine fin_n ?_ | refine AW.block ?_ | refine blockQ_n ?_ | refine blockQ_r ?_ | refine blockQ_e ?_ | refine blockQ_o rfl ?_)
          exact ⟨(A, Bb, n), ⟨hka.out, hkb1, hkb2.out⟩, by simp [Try.f54]⟩
        · refine CallX.mk' ⟨by simp [*], by simp [*], by simp [*], by simp [*], by simp [*]⟩ (by simp [*]; rfl) ?_
          repeat' (first | with_reducible refine OutOK.done ?_ | refine thenQ_n ?_ | refine thenQ_r ?_ | refine thenQ_e ?_ | refine AW.seq ?_ | refine AW.reg tok (by simp [*]; rfl) ?_ | refine AW.ifB (by simp [*]; rfl) ?_ | refine IfG.t ?_ | refine IfG.f ?_ | ((first | refine IfG.p (fun hg => ?_) (fun hg => ?_) | refine IfG.n (fun hg => ?_) (fun hg => ?_) | refine OutOK.gateP (fun hg => ?_) (fun hg => ?_) | refine OutOK.gateN (fun hg => ?_) (fun hg => ?_) | refine IfG.g (fun hg => ?_) (fun hg => ?_) | refine OutOK.gate (fun hg => ?_) (fun hg => ?_)) <;> (try (have hg' := hg; simp at hg'))) | refine OutOK.run (by simp [*]; rfl) ?_ | refine AW.ret ?_ | refine AW.skip ?_ | refine AW.exit ?_ | refine fin_r ?_ | refine fin_n ?_ | refine AW.block ?_ | refine blockQ_n ?_ | refine blockQ_r ?_ | refine blockQ_e ?_ | refine blockQ_o rfl ?_)
          refine OutOK.callX [] (by simp [*]; rfl) (by simp [*]; rfl) (by simp [*]; rfl) hb108 (by apply cB <;> first | assumption | exact Hd.out (by assumption) | omega) ⟨by simp [*], by simp [*], by simp [*]⟩ (by simp [*]) (fun x hx => ?_)
          obtain ⟨a6, s6, i⟩ := x
          simp only at hx
          obtain ⟨v1, v2, v3⟩ := hx
          have hi : i < Bb.length := by omega
          have hE := hkb2.out _ (List.getElem_mem hi)
          obtain ⟨tm, ct, ck, it, tx, he⟩ : ∃ tm ct ck it tx, Bb[i] = ⟨tm, ct, ck, it, tx⟩ := ⟨_, _, _, _, _, rfl⟩
          rw [he] at hE
          have hnew : Hd (∀ e ∈ Bb.set i ⟨tm, ct, ck, it, ⟨#[111, 116, 104, 101, 114]⟩⟩, EdtB e) := fun e h => by
            rcases List.mem_or_eq_of_mem_set h with h | rfl
            · exact hkb2.out e h
            · exact ⟨hE.1, hE.2.1, by have : (⟨#[111, 116, 104, 101, 114]⟩ : ByteArray).size ≤ 1048576 := (by decide); exact this⟩
          have hset2 := (show ∀ e : Edt, (edts false Bb).set i (.ag (edtC false e)) = edts false (Bb.set i e) from fun e => by simp [els, List.map_set]) ⟨tm, ct, ck, it, ⟨#[111, 116, 104, 101, 114]⟩⟩
          simp only [edtC] at hset2
          replace hset2 : Hd _ := hset2
          clear hE cB cq
          refine CallX.mk' ⟨by simp [*], by simp [*], by simp [*], by simp [*], by simp [*]⟩ (by simp [*]; rfl) ?_
          repeat' (first | with_reducible refine OutOK.done ?_ | refine thenQ_n ?_ | refine thenQ_r ?_ | refine thenQ_e ?_ | refine AW.seq ?_ | refine AW.reg tok (by simp [*]; rfl) ?_ | refine AW.ifB (by simp [*]; rfl) ?_ | refine IfG.t ?_ | refine IfG.f ?_ | ((first | refine IfG.p (fun hg => ?_) (fun hg => ?_) | refine IfG.n (fun hg => ?_) (fun hg => ?_) | refine OutOK.gateP (fun hg => ?_) (fun hg => ?_) | refine OutOK.gateN (fun hg => ?_) (fun hg => ?_) | refine IfG.g (fun hg => ?_) (fun hg => ?_) | refine OutOK.gate (fun hg => ?_) (fun hg => ?_)) <;> (try (have hg' := hg; simp at hg'))) | refine OutOK.run (by simp [*]; rfl) ?_ | refine AW.ret ?_ | refine AW.skip ?_ | refine AW.exit ?_ | refine fin_r ?_ | refine fin_n ?_ | refine AW.block ?_ | refine blockQ_n ?_ | refine blockQ_r ?_ | refine blockQ_e ?_ | refine blockQ_o rfl ?_)
          have hs := hset2.out
          exact ⟨(A, Bb.set i ⟨tm, ct, ck, it, ⟨#[111, 116, 104, 101, 114]⟩⟩, n), ⟨hka.out, by simp; omega, hnew.out⟩, by simp [Try.f54, hs]⟩
      · have hb0 : Bb = [] := List.length_eq_zero_iff.1 (by omega)
        subst hb0
        refine CallX.mk' ⟨by simp [*], by simp [*], by simp [*], by simp [*], by simp [*]⟩ (by simp [*]; rfl) ?_
        repeat' (first | with_reducible refine OutOK.done ?_ | refine thenQ_n ?_ | refine thenQ_r ?_ | refine thenQ_e ?_ | refine AW.seq ?_ | refine AW.reg tok (by simp [*]; rfl) ?_ | refine AW.ifB (by simp [*]; rfl) ?_ | refine IfG.t ?_ | refine IfG.f ?_ | ((first | refine IfG.p (fun hg => ?_) (fun hg => ?_) | refine IfG.n (fun hg => ?_) (fun hg => ?_) | refine OutOK.gateP (fun hg => ?_) (fun hg => ?_) | refine OutOK.gateN (fun hg => ?_) (fun hg => ?_) | refine IfG.g (fun hg => ?_) (fun hg => ?_) | refine OutOK.gate (fun hg => ?_) (fun hg => ?_)) <;> (try (have hg' := hg; simp at hg'))) | (refine OutOK.callF [] (by simp [*]; rfl) (by simp [*]; rfl) (by simp [*]; rfl) hb41 (by apply k2 <;> first | assumption | exact Hd.out (by assumption) | omega) ⟨by simp [*], by simp [*], by simp [*], by simp [*], by simp [*]⟩ (by simp [*]) (by simp [*]; rfl) ?_) | refine OutOK.run (by simp [*]; rfl) ?_ | refine AW.ret ?_ | refine AW.skip ?_ | refine AW.exit ?_ | refine fin_r ?_ | refine fin_n ?_ | refine AW.block ?_ | refine blockQ_n ?_ | refine blockQ_r ?_ | refine blockQ_e ?_ | refine blockQ_o rfl ?_)
        exact ⟨(A, [], n), ⟨hka.out, by simp, by simp⟩, by simp [Try.f54]⟩
end Go.Proofs.Ytbofobjofngoeaa.EngS


set_option linter.unusedSimpArgs false
set_option linter.unusedVariables false
set_option maxHeartbeats 4000000
set_option maxRecDepth 100000
namespace Go.Proofs.Ytbofobjofngoeaa.EngS
open Go Go.Proofs Go.Eng Go.RowKit
theorem c_laws_vInts4 (l : List Int) (h : l.length < 9223372036854775807) : ACall Try.prog 39 [.v (.sl true 1 (ints l)), .v (.sl true 1 (ints l))] [.x, .x] [boo true] := by
  refine ACall.of (N := 26) tok Try.func39 rfl rfl rfl (by simp) ?_
  repeat' (first | with_reducible refine OutOK.done ?_ | refine thenQ_n ?_ | refine thenQ_r ?_ | refine thenQ_e ?_ | refine AW.seq ?_ | refine AW.dreg tok mixed [7]  [(0, false), (1, false), (2, false), (4, false), (5, false), (6, false), (3, false), (7, true), (8, false)] (by decide +kernel) rfl (by simp [*]; rfl) ?_ | refine AW.reg tok (by simp [*]; rfl) ?_ | refine AW.ifB (by simp [*]; rfl) ?_ | refine IfG.t ?_ | refine IfG.f ?_ | ((first | refine IfG.p (fun hg => ?_) (fun hg => ?_) | refine IfG.n (fun hg => ?_) (fun hg => ?_) | refine OutOK.gateP (fun hg => ?_) (fun hg => ?_) | refine OutOK.gateN (fun hg => ?_) (fun hg => ?_) | refine IfG.g (fun hg => ?_) (fun hg => ?_) | refine OutOK.gate (fun hg => ?_) (fun hg => ?_)) <;> (try (have hg' := hg; simp at hg'))) | refine OutOK.run (by simp [*]; rfl) ?_ | refine AW.ret ?_ | refine AW.skip ?_ | refine AW.exit ?_ | refine fin_r ?_ | refine fin_n ?_ | refine AW.block ?_ | refine blockQ_n ?_ | refine blockQ_r ?_ | refine blockQ_e ?_ | refine blockQ_o rfl ?_)
  refine AW.loopL (fun i => i ≤ l.length) (fun i => [(0, .c (.sl true 1 (ints l))), (1, .c (.sl true 1 (ints l))), (5, .c (.sc (.int .i64 (i : Int))))]) (fun _ => []) (fun i => l.length - i) 0 (Nat.zero_le _) ⟨by simp, by simp, by simp⟩ ?_
  intro i hi
  rcases Nat.lt_or_ge i l.length with hl | hl
  · have e1 : wrap64 ((i : Int) + 1) = ((i + 1 : Nat) : Int) := by rw [w64 (by omega) (by omega)]; omega
    repeat' (first | with_reducible refine OutOK.done ?_ | refine thenQ_n ?_ | refine thenQ_r ?_ | refine thenQ_e ?_ | refine AW.seq ?_ | refine AW.dreg tok mixed [7]  [(0, false), (1, false), (2, false), (4, false), (5, false), (6, false), (3, false), (7, true), (8, false)] (by decide +kernel) rfl (by simp [*]; rfl) ?_ | refine AW.reg tok (by simp [*]; rfl) ?_ | refine AW.ifB (by simp [*]; rfl) ?_ | refine IfG.t ?_ | refine IfG.f ?_ | ((first | refine IfG.p (fun hg => ?_) (fun hg => ?_) | refine IfG.n (fun hg => ?_) (fun hg => ?_) | refine OutOK.gateP (fun hg => ?_) (fun hg => ?_) | refine OutOK.gateN (fun hg => ?_) (fun hg => ?_) | refine IfG.g (fun hg => ?_) (fun hg => ?_) | refine OutOK.gate (fun hg => ?_) (fun hg => ?_)) <;> (try (have hg' := hg; simp at hg'))) | refine OutOK.run (by simp [*]; rfl) ?_ | refine AW.ret ?_ | refine AW.skip ?_ | refine AW.exit ?_ | refine fin_r ?_ | refine fin_n ?_ | refine AW.block ?_ | refine blockQ_n ?_ | refine blockQ_r ?_ | refine blockQ_e ?_ | refine blockQ_o rfl ?_)
    exact ⟨i + 1, hl, ⟨by simp, by simp, by simp⟩, by ((try clear e1); omega)⟩
  · have hn : ¬ i < l.length := by omega
    repeat' (first | with_reducible refine OutOK.done ?_ | refine thenQ_n ?_ | refine thenQ_r ?_ | refine thenQ_e ?_ | refine AW.seq ?_ | refine AW.dreg tok mixed [7]  [(0, false), (1, false), (2, false), (4, false), (5, false), (6, false), (3, false), (7, true), (8, false)] (by decide +kernel) rfl (by simp [*]; rfl) ?_ | refine AW.reg tok (by simp [*]; rfl) ?_ | refine AW.ifB (by simp [*]; rfl) ?_ | refine IfG.t ?_ | refine IfG.f ?_ | ((first | refine IfG.p (fun hg => ?_) (fun hg => ?_) | refine IfG.n (fun hg => ?_) (fun hg => ?_) | refine OutOK.gateP (fun hg => ?_) (fun hg => ?_) | refine OutOK.gateN (fun hg => ?_) (fun hg => ?_) | refine IfG.g (fun hg => ?_) (fun hg => ?_) | refine OutOK.gate (fun hg => ?_) (fun hg => ?_)) <;> (try (have hg' := hg; simp at hg'))) | refine OutOK.run (by simp [*]; rfl) ?_ | refine AW.ret ?_ | refine AW.skip ?_ | refine AW.exit ?_ | refine fin_r ?_ | refine fin_n ?_ | refine AW.block ?_ | refine blockQ_n ?_ | refine blockQ_r ?_ | refine blockQ_e ?_ | refine blockQ_o rfl ?_)
    all_goals (try simp [*, Try.f39])
theorem c_laws_vEdits (l : List Edt) (h : l.length < 1048576) (hl : ∀ e ∈ l, e.ck.length < 1048576) : ACall Try.prog 55 [.v (.sl true 5 (edts true l)), .v (.sl true 5 (edts true l))] [.x, .x] [boo true] := by
  replace hl : Hd _ := hl
  refine ACall.of (N := 81) tok Try.func55 rfl rfl rfl (by simp) ?_
  repeat' (first | with_reducible refine OutOK.done ?_ | refine thenQ_n ?_ | refine thenQ_r ?_ | refine thenQ_e ?_ | refine AW.seq ?_ | refine AW.dreg tok mixed [9, 21, 34, 47, 60]  [(0, false), (1, false), (2, false), (3, false), (5, false), (6, false), (7, false), (8, false), (4, false), (9, true), (10, false), (11, false), (12, false), (13, false), (14, false), (15, false), (17, false), (18, false), (19, false), (20, false), (16, false), (21, true), (22, false), (23, false), (24, false), (25, false), (26, false), (27, false), (28, false), (30, false), (31, false), (32, false), (33, false), (29, false), (34, true), (35, false), (36, false), (37, false), (38, false), (39, false), (40, false), (41, false), (43, false), (44, false), (45, false), (46, false), (42, false), (47, true), (48, false), (49, false), (50, false), (51, false), (52, false), (53, false), (54, false), (56, false), (57, false), (58, false), (59, false), (55, false), (60, true), (61, false), (62, false), (63, false)] (by decide +kernel) rfl (by simp [*]; rfl) ?_ | refine AW.reg tok (by simp [*]; rfl) ?_ | refine AW.ifB (by simp [*]; rfl) ?_ | refine IfG.t ?_ | refine IfG.f ?_ | ((first | refine IfG.p (fun hg => ?_) (fun hg => ?_) | refine IfG.n (fun hg => ?_) (fun hg => ?_) | refine OutOK.gateP (fun hg => ?_) (fun hg => ?_) | refine OutOK.gateN (fun hg => ?_) (fun hg => ?_) | refine IfG.g (fun hg => ?_) (fun hg => ?_) | refine OutOK.gate (fun hg => ?_) (fun hg => ?_)) <;> (try (have hg' := hg; simp at hg'))) | refine OutOK.run (by simp [*]; rfl) ?_ | refine AW.ret ?_ | refine AW.skip ?_ | refine AW.exit ?_ | refine fin_r ?_ | refine fin_n ?_ | refine AW.block ?_ | refine blockQ_n ?_ | refine blockQ_r ?_ | refine blockQ_e ?_ | refine blockQ_o rfl ?_)
  refine AW.loopL (fun i => i ≤ l.length) (fun i => [(0, .c (.sl true 5 (edts true l))), (1, .c (.sl true 5 (edts true l))), (5, .c (.sc (.int .i64 (i : Int))))]) (fun _ => []) (fun i => l.length - i) 0 (Nat.zero_le _) ⟨by simp, by simp, by simp⟩ ?_
  intro i hi
  rcases Nat.lt_or_ge i l.length with hli | hli
  · have e1 : wrap64 ((i : Int) + 1) = ((i + 1 : Nat) : Int) := by rw [w64 (by omega) (by omega)]; omega
    have hk := hl.out l[i] (List.getElem_mem hli)
    obtain ⟨tm, ct, ck, it, tx, he⟩ : ∃ tm ct ck it tx, l[i] = ⟨tm, ct, ck, it, tx⟩ := ⟨_, _, _, _, _, rfl⟩
    rw [he] at hk
    have cv := c_laws_vInts4 ck (by simp only at hk; omega)
    clear hk
    repeat' (first | with_reducible refine OutOK.done ?_ | refine thenQ_n ?_ | refine thenQ_r ?_ | refine thenQ_e ?_ | refine AW.seq ?_ | refine AW.dreg tok mixed [9, 21, 34, 47, 60]  [(0, false), (1, false), (2, false), (3, false), (5, false), (6, false), (7, false), (8, false), (4, false), (9, true), (10, false), (11, false), (12, false), (13, false), (14, false), (15, false), (17, false), (18, false), (19, false), (20, false), (16, false), (21, true), (22, false), (23, false), (24, false), (25, false), (26, false), (27, false), (28, false), (30, false), (31, false), (32, false), (33, false), (29, false), (34, true), (35, false), (36, false), (37, false), (38, false), (39, false), (40, false), (41, false), (43, false), (44, false), (45, false), (46, false), (42, false), (47, true), (48, false), (49, false), (50, false), (51, false), (52, false), (53, false), (54, false), (56, false), (57, false), (58, false), (59, false), (55, false), (60, true), (61, false), (62, false), (63, false)] (by decide +kernel) rfl (by simp [*]; rfl) ?_ | refine AW.reg tok (by simp [*]; rfl) ?_ | refine AW.ifB (by simp [*]; rfl) ?_ | refine IfG.t ?_ | refine IfG.f ?_ | ((first | refine IfG.p (fun hg => ?_) (fun hg => ?_) | refine IfG.n (fun hg => ?_) (fun hg => ?_) | refine OutOK.gateP (fun hg => ?_) (fun hg => ?_) | refine OutOK.gateN (fun hg => ?_) (fun hg => ?_) | refine IfG.g (fun hg => ?_) (fun hg => ?_) | refine OutOK.gate (fun hg => ?_) (fun hg => ?_)) <;> (try (have hg' := hg; simp at hg'))) | (refine OutOK.callF [] (by simp [*]; rfl) (by simp [*]; rfl) (by simp [*]; rfl) hb39 (by apply cv <;> first | assumption | exact Hd.out (by assumption) | ((try clear e1); omega)) ⟨by simp [*], by simp [*], by simp [*], by simp [*], by simp [*]⟩ (by simp [*]) (by simp [*]; rfl) ?_) | refine OutOK.run (by simp [*]; rfl) ?_ | refine AW.ret ?_ | refine AW.skip ?_ | refine AW.exit ?_ | refine fin_r ?_ | refine fin_n ?_ | refine AW.block ?_ | refine blockQ_n ?_ | refine blockQ_r ?_ | refine blockQ_e ?_ | refine blockQ_o rfl ?_)
    exact ⟨i + 1, hli, ⟨by simp, by simp, by simp⟩, by ((try clear e1); omega)⟩
  · have hn : ¬ i < l.length := by omega
    repeat' (first | with_reducible refine OutOK.done ?_ | refine thenQ_n ?_ | refine thenQ_r ?_ | refine thenQ_e ?_ | refine AW.seq ?_ | refine AW.dreg tok mixed [9, 21, 34, 47, 60]  [(0, false), (1, false), (2, false), (3, false), (5, false), (6, false), (7, false), (8, false), (4, false), (9, true), (10, false), (11, false), (12, false), (13, false), (14, false), (15, false), (17, false), (18, false), (19, false), (20, false), (16, false), (21, true), (22, false), (23, false), (24, false), (25, false), (26, false), (27, false), (28, false), (30, false), (31, false), (32, false), (33, false), (29, false), (34, true), (35, false), (36, false), (37, false), (38, false), (39, false), (40, false), (41, false), (43, false), (44, false), (45, false), (46, false), (42, false), (47, true), (48, false), (49, false), (50, false), (51, false), (52, false), (53, false), (54, false), (56, false), (57, false), (58, false), (59, false), (55, false), (60, true), (61, false), (62, false), (63, false)] (by decide +kernel) rfl (by simp [*]; rfl) ?_ | refine AW.reg tok (by simp [*]; rfl) ?_ | refine AW.ifB (by simp [*]; rfl) ?_ | refine IfG.t ?_ | refine IfG.f ?_ | ((first | refine IfG.p (fun hg => ?_) (fun hg => ?_) | refine IfG.n (fun hg => ?_) (fun hg => ?_) | refine OutOK.gateP (fun hg => ?_) (fun hg => ?_) | refine OutOK.gateN (fun hg => ?_) (fun hg => ?_) | refine IfG.g (fun hg => ?_) (fun hg => ?_) | refine OutOK.gate (fun hg => ?_) (fun hg => ?_)) <;> (try (have hg' := hg; simp at hg'))) | refine OutOK.run (by simp [*]; rfl) ?_ | refine AW.ret ?_ | refine AW.skip ?_ | refine AW.exit ?_ | refine fin_r ?_ | refine fin_n ?_ | refine AW.block ?_ | refine blockQ_n ?_ | refine blockQ_r ?_ | refine blockQ_e ?_ | refine blockQ_o rfl ?_)
    all_goals (try simp [*, Try.f55])
end Go.Proofs.Ytbofobjofngoeaa.EngS


set_option linter.unusedSimpArgs false
set_option linter.unusedVariables false
set_option maxHeartbeats 4000000
set_option maxRecDepth 100000
namespace Go.Proofs.Ytbofobjofngoeaa.EngS
open Go Go.Proofs Go.Eng Go.RowKit
theorem str_eq {a b : ByteArray} (h : a.toList = b.toList) : a = b := by
  rw [Lib.toList_data, Lib.toList_data] at h
  exact ByteArray.ext (Array.toList_inj.1 h)
theorem sameE_eq {a b : Edt} (h : sameE a b = true) : a = b := by
  obtain ⟨t1, c1, k1, i1, x1⟩ := a
  obtain ⟨t2, c2, k2, i2, x2⟩ := b
  simp only [sameE, Bool.and_eq_true, decide_eq_true_eq] at h
  obtain ⟨⟨⟨⟨h1, h2⟩, h3⟩, h4⟩, h5⟩ := h
  rw [h1, h2, h3, str_eq h4, str_eq h5]
theorem sameE_refl (a : Edt) : sameE a a = true := by simp [sameE]
theorem fnd_pos {l : List Edt} {t n : Int} (h : ¬ fndE l t n < 0) : ∃ x ∈ l, l[(fndE l t n).toNat]?.getD default = x ∧ x.tm = t ∧ x.ct = n := by
  rcases idx_one (keyE t n) l with ⟨h1, _⟩ | ⟨i, hi, h3, h4, _⟩
  · exact absurd (show fndE l t n < 0 by rw [show fndE l t n = idx (keyE t n) l from rfl, h1]; omega) h
  · have h5 : fndE l t n = (i : Int) := h3
    refine ⟨l[i], List.getElem_mem hi, by rw [h5]; simp [hi], ?_⟩
    simpa [keyE] using h4
theorem join_mem {a : List Edt} : ∀ {b out m : List Edt}, (∀ x ∈ a, x ∈ out) → joinL a out b = some m → ∀ x, x ∈ m ↔ x ∈ out ∨ x ∈ b
  | [], out, m, ha, h, x => by rw [joinL] at h; cases h; simp
  | y :: r, out, m, ha, h, x => by
    rw [joinL] at h
    split at h
    · rw [join_mem (fun z hz => putL_mem.2 (.inr (ha z hz))) h x, putL_mem, List.mem_cons]
      constructor
      · rintro ((h1 | h1) | h1)
        · exact .inr (.inl h1)
        · exact .inl h1
        · exact .inr (.inr h1)
      · rintro (h1 | h1 | h1)
        · exact .inl (.inr h1)
        · exact .inl (.inl h1)
        · exact .inr h1
    · rename_i hf
      split at h
      · rename_i hs
        obtain ⟨z, hz, h1, h2⟩ := fnd_pos hf
        rw [h1] at hs
        have := sameE_eq hs
        subst this
        rw [join_mem ha h x, List.mem_cons]
        constructor
        · rintro (h1 | h1)
          · exact .inl h1
          · exact .inr (.inr h1)
        · rintro (h1 | h1 | h1)
          · exact .inl h1
          · exact .inl (h1 ▸ ha z hz)
          · exact .inr h1
      · cases h
def Conf (a b : List Edt) : Prop := ∃ x ∈ a, ∃ y ∈ b, x.tm = y.tm ∧ x.ct = y.ct ∧ x ≠ y
theorem join_conf {a : List Edt} : ∀ {b out : List Edt}, joinL a out b = none → Conf a b
  | [], out, h => by rw [joinL] at h; cases h
  | y :: r, out, h => by
    rw [joinL] at h
    split at h
    · obtain ⟨x, hx, z, hz, h1⟩ := join_conf h
      exact ⟨x, hx, z, by simp [hz], h1⟩
    · rename_i hf
      obtain ⟨z, hz, h1, h2, h3⟩ := fnd_pos hf
      split at h
      · obtain ⟨x, hx, z, hz, h1⟩ := join_conf h
        exact ⟨x, hx, z, by simp [hz], h1⟩
      · rename_i hs
        rw [h1] at hs
        exact ⟨z, hz, y, by simp, h2, h3, fun e => hs (e ▸ sameE_refl z)⟩
theorem conf_join {a : List Edt} (ha : SS a) : ∀ {b out m : List Edt}, Conf a b → joinL a out b ≠ some m
  | [], out, m, ⟨x, hx, y, hy, h⟩, _ => by simp at hy
  | z :: r, out, m, ⟨x, hx, y, hy, h1, h2, h3⟩, h => by
    rw [joinL] at h
    have hrec : y ∈ r → ∀ out, joinL a out r ≠ some m := fun hr out => conf_join ha ⟨x, hx, y, hr, h1, h2, h3⟩
    split at h
    · rename_i hf
      rcases List.mem_cons.1 hy with rfl | hy
      · exact fndE_neg hf x hx ⟨h1, h2⟩
      · exact hrec hy _ h
    · rename_i hf
      obtain ⟨w, hw, g1, g2, g3⟩ := fnd_pos hf
      split at h
      · rename_i hs
        rcases List.mem_cons.1 hy with rfl | hy
        · rw [g1] at hs
          have := sameE_eq hs
          have h4 := ha.one x hx w hw (by omega) (by omega)
          exact h3 (h4.trans this)
        · exact hrec hy _ h
      · cases h
theorem SS.nd {l : List Edt} (h : SS l) : l.Nodup := List.Pairwise.imp (fun {x y} (h : cmpE x y < 0) (e : x = y) => by subst e; rw [cmpE_lt] at h; omega) h
theorem join_SS {a b m : List Edt} (ha : SS a) (hb : SS b) (h : joinL a a b = some m) : SS m := by
  have hj := join_both a b a a hb ha (.refl _) (fun x hx => .inl hx)
  rw [h] at hj
  cases hL : joinA a a b with
  | none => rw [hL] at hj; exact hj.elim
  | some m2 => rw [hL] at hj; exact hj.1
theorem SS_uniq {a b : List Edt} (ha : SS a) (hb : SS b) (h : ∀ x, x ∈ a ↔ x ∈ b) : a = b := by
  refine sorted_same ((List.perm_ext_iff_of_nodup ha.nd hb.nd).2 h) ha.two hb.two (fun x hx y hy h1 h2 => ?_)
  rw [cmpE_lt] at h1 h2
  exact hb.one x hx y hy (by omega) (by omega)
theorem mrgO_comm (a b : List Edt) (n : Int) : mrgO a b n = mrgO b a n := by
  by_cases hA : hist a n = true
  · by_cases hB : hist b n = true
    · have h1 : mrgO a b n = joinL a a b := by simp [mrgO, hA, hB]
      have h2 : mrgO b a n = joinL b b a := by simp [mrgO, hA, hB]
      rw [h1, h2]
      have sa := hist_SS hA
      have sb := hist_SS hB
      cases h3 : joinL a a b with
      | none =>
        obtain ⟨x, hx, y, hy, g1, g2, g3⟩ := join_conf h3
        cases h4 : joinL b b a with
        | none => rfl
        | some m => exact absurd h4 (conf_join sb ⟨y, hy, x, hx, g1.symm, g2.symm, Ne.symm g3⟩)
      | some m =>
        cases h4 : joinL b b a with
        | none =>
          obtain ⟨x, hx, y, hy, g1, g2, g3⟩ := join_conf h4
          exact absurd h3 (conf_join sa ⟨y, hy, x, hx, g1.symm, g2.symm, Ne.symm g3⟩)
        | some m2 =>
          refine congrArg some (SS_uniq (join_SS sa sb h3) (join_SS sb sa h4) fun x => ?_)
          rw [join_mem (fun _ h => h) h3, join_mem (fun _ h => h) h4, Or.comm]
    · simp [mrgO, hA, hB]
  · simp [mrgO, hA]
theorem mrg_comm (a b : List Edt) (n : Int) : mrgB a b n = mrgB b a n ∧ mrgR a b n = mrgR b a n := by
  have h1 : mrgB a b n = mrgB b a n := by rw [mrgB, mrgO_comm]; rfl
  exact ⟨h1, by rw [mrgR, h1, mrgO_comm, mrgR]⟩
theorem join_sub {l : List Edt} (hl : SS l) : ∀ {k : List Edt}, (∀ y ∈ k, y ∈ l) → joinL l l k = some l
  | [], _ => by rw [joinL]
  | y :: r, h => by
    have hy := h y (by simp)
    rw [joinL]
    split
    · rename_i hf
      exact absurd ⟨rfl, rfl⟩ (fndE_neg hf y hy)
    · rename_i hf
      obtain ⟨z, hz, h1, h2, h3⟩ := fnd_pos hf
      rw [h1, hl.one z hz y hy h2 h3, if_pos (sameE_refl y)]
      exact join_sub hl (fun z hz => h z (by simp [hz]))
theorem mrg_sub {l k : List Edt} {n : Int} (hl : hist l n = true) (hk : hist k n = true) (h : ∀ y ∈ k, y ∈ l) : mrgB l k n = true ∧ mrgR l k n = l := by
  have h1 : mrgO l k n = some l := by simp [mrgO, hl, hk, join_sub (hist_SS hl) h]
  obtain ⟨h2, h3⟩ := mrg_some h1
  rw [h2, h3, hl]
  exact ⟨rfl, by simp⟩
theorem part_cnt {l : List Edt} (m : Int → Int) (hl : ∀ i (h : i < l.length), l[i].ct = (cntE (l.take i) l[i].tm : Int) + 1) : ∀ N, N ≤ l.length →
    (∀ t, cntE ((l.take N).filter fun x => decide (x.ct ≤ m x.tm)) t = min (cntE (l.take N) t) (m t).toNat) ∧
    ∀ i (h : i < ((l.take N).filter fun x => decide (x.ct ≤ m x.tm)).length), ((l.take N).filter fun x => decide (x.ct ≤ m x.tm))[i].ct = (cntE (((l.take N).filter fun x => decide (x.ct ≤ m x.tm)).take i) ((l.take N).filter fun x => decide (x.ct ≤ m x.tm))[i].tm : Int) + 1
  | 0, _ => ⟨fun t => by simp [cntE], fun i h => by simp at h⟩
  | N + 1, hN => by
    obtain ⟨ih1, ih2⟩ := part_cnt m hl N (by omega)
    have hNl : N < l.length := by omega
    have hc := hl N hNl
    have hF : (l.take (N + 1)).filter (fun x => decide (x.ct ≤ m x.tm)) = (l.take N).filter (fun x => decide (x.ct ≤ m x.tm)) ++ (if l[N].ct ≤ m l[N].tm then [l[N]] else []) := by
      rw [List.take_succ_eq_append_getElem hNl, List.filter_append]
      congr 1
      by_cases h : l[N].ct ≤ m l[N].tm <;> simp [h]
    rw [hF]
    generalize (l.take N).filter (fun x => decide (x.ct ≤ m x.tm)) = F at *
    by_cases h : l[N].ct ≤ m l[N].tm
    · rw [if_pos h]
      refine ⟨fun t => ?_, fun i hi => ?_⟩
      · rw [cntE_snoc, cntE_take l N hNl, ih1]
        by_cases ht : l[N].tm = t
        · subst ht
          simp only [if_true]
          omega
        · simp only [if_neg ht]
          omega
      · rcases Nat.lt_or_ge i F.length with h1 | h1
        · rw [List.getElem_append_left h1, List.take_append_of_le_length (by omega)]
          exact ih2 i h1
        · have h2 : i = F.length := by simp at hi; omega
          subst h2
          simp only [List.getElem_append_right (Nat.le_refl _), Nat.sub_self, List.getElem_cons_zero, List.take_left]
          rw [ih1]
          omega
    · rw [if_neg h, List.append_nil]
      refine ⟨fun t => ?_, ih2⟩
      rw [cntE_take l N hNl, ih1]
      by_cases ht : l[N].tm = t
      · subst ht
        simp only [if_true]
        omega
      · simp only [if_neg ht]
        omega
end Go.Proofs.Ytbofobjofngoeaa.EngS


set_option linter.unusedSimpArgs false
set_option linter.unusedVariables false
set_option maxHeartbeats 4000000
set_option maxRecDepth 100000
namespace Go.Proofs.Ytbofobjofngoeaa.EngS
open Go Go.Proofs Go.Eng Go.RowKit
theorem known_hist {l : List Edt} {n : Int} (h : hist l n = true) {L : Nat} (hL : L < l.length) : hist (l.filter fun x => !knP l[L] x) n = true := by
  have hH := hist_iff'.1 h
  have hS := hist_SS h
  obtain ⟨z, hz⟩ : ∃ z, z = l[L] := ⟨_, rfl⟩
  have hzl : z ∈ l := hz ▸ List.getElem_mem hL
  have hzF := hH.fl L hL
  rw [← hz] at hzF ⊢
  have hn := inR_iff.1 hH.nn
  have hq : ∀ x ∈ l, (!knP z x) = decide (x.ct ≤ ckAt z.ck x.tm) := by
    intro x hx
    have htm := inR_iff.1 (hist_tm h x hx)
    simp only [knP, Bool.not_and, Bool.not_not]
    by_cases hc : x.tm = z.tm ∧ x.ct = z.ct
    · have h0 := cmpE_zero.2 hc
      have h1 : precE x z = false := by simp [precE, hc]
      rw [h1, h0, hc.1, hc.2, hzF.2.1]
      simp
    · have h0 : ¬ cmpE x z = 0 := fun e => hc (cmpE_zero.1 e)
      have h1 : precE x z = decide (x.ct ≤ ckAt z.ck x.tm) := by
        have h2 : inR 0 ((z.ck.length : Int) - 1) x.tm = true := inR_iff.2 (by have := hzF.1; omega)
        have h3 : (decide (x.tm = z.tm) && decide (x.ct = z.ct)) = false := by
          rw [Bool.eq_false_iff]
          intro e
          simp at e
          exact hc e
        simp [precE, h2, h3]
      rw [h1]
      simp [h0]
  have hKe : l.filter (fun x => !knP z x) = l.filter fun x => decide (x.ct ≤ ckAt z.ck x.tm) := List.filter_congr hq
  rw [hKe]
  obtain ⟨c1, c2⟩ := part_cnt (fun t => ckAt z.ck t) (fun i hi => (hH.st i hi).2.2) l.length (Nat.le_refl _)
  rw [List.take_length] at c1 c2
  have hmem : ∀ x, x ∈ l.filter (fun x => decide (x.ct ≤ ckAt z.ck x.tm)) → x ∈ l ∧ x.ct ≤ ckAt z.ck x.tm := fun x hx => by
    have := List.mem_filter.1 hx
    exact ⟨this.1, by simpa using this.2⟩
  have hKS : SS (l.filter fun x => decide (x.ct ≤ ckAt z.ck x.tm)) := hS.sublist List.filter_sublist
  have hlenK : (l.filter fun x => decide (x.ct ≤ ckAt z.ck x.tm)).length ≤ l.length := List.length_filter_le _ _
  generalize l.filter (fun x => decide (x.ct ≤ ckAt z.ck x.tm)) = K at *
  have hat : ∀ i (hi : i < K.length), ∃ j, ∃ hj : j < l.length, l[j] = K[i] ∧ K[i].ct ≤ ckAt z.ck K[i].tm := fun i hi => by
    obtain ⟨h1, h2⟩ := hmem _ (List.getElem_mem hi)
    obtain ⟨j, hj, e⟩ := List.getElem_of_mem h1
    exact ⟨j, hj, e, h2⟩
  refine hist_iff'.2 ⟨hH.nn, by have := hH.len; omega, fun i hi => ?_, fun i hi => ?_, fun i hi t ht => ?_, fun i hi k hk hp => ?_⟩
  · obtain ⟨j, hj, e, h2⟩ := hat i hi
    refine ⟨?_, fun q hq e2 => ?_, c2 i hi⟩
    · exact hist_tm h _ (e ▸ List.getElem_mem hj)
    · exact List.pairwise_iff_getElem.1 hKS q i hq hi (by omega)
  · obtain ⟨j, hj, e, h2⟩ := hat i hi
    rw [← e]
    exact hH.fl j hj
  · obtain ⟨j, hj, e, h2⟩ := hat i hi
    have h3 := hH.ck j hj t (by rw [e]; exact ht)
    have h4 := inR_iff.1 h3
    have hfl := hH.fl j hj
    rw [e] at h4 hfl
    rw [inR_iff, c1]
    have h5 := hH.ck L hL t (by rw [← hz]; have := hzF.1; have := hfl.1; omega)
    rw [← hz] at h5
    have h6 := inR_iff.1 h5
    have h7 : ckAt K[i].ck (t : Int) ≤ ckAt z.ck (t : Int) := by
      have hqx := hq K[i] (e ▸ List.getElem_mem hj)
      rw [decide_eq_true h2] at hqx
      simp only [knP, Bool.not_and, Bool.not_not, Bool.or_eq_true, decide_eq_true_eq] at hqx
      rcases hqx with hp | hp
      · have h8 := (hH.pr L hL j hj (by rw [e, ← hz]; exact hp)).2
        rw [e, ← hz] at h8
        have h9 := noGr_iff.1 h8 t ht
        simpa [ckAt] using h9
      · rw [cmpE_zero] at hp
        rw [hS.one K[i] (e ▸ List.getElem_mem hj) z hzl hp.1 hp.2]
        exact Int.le_refl _
    omega
  · obtain ⟨j, hj, e, h2⟩ := hat i hi
    obtain ⟨j2, hj2, e2, h3⟩ := hat k hk
    rw [← e, ← e2] at hp ⊢
    exact hH.pr j hj j2 hj2 hp
theorem known_ok {l : List Edt} {n t : Int} (h : knwB l n t = true) : hist (knwR l n t) n = true ∧ ∀ y ∈ knwR l n t, y ∈ l := by
  have hh : hist l n = true := by simp only [knwB, Bool.and_eq_true] at h; exact h.1
  have hn := (hist_iff'.1 hh).nn
  rw [knwR, if_pos h, knwL]
  split
  · refine ⟨hist_iff'.2 ⟨hn, by simp, ?_, ?_, ?_, ?_⟩, by simp⟩ <;> (intro i hi; simp at hi)
  · rename_i hf
    obtain ⟨x, hx, h1, h2, h3⟩ := fnd_pos hf
    obtain ⟨L, hL, rfl⟩ := List.getElem_of_mem hx
    rw [h1]
    exact ⟨known_hist hh hL, fun y hy => (List.mem_filter.1 hy).1⟩
end Go.Proofs.Ytbofobjofngoeaa.EngS


set_option linter.unusedSimpArgs false
set_option linter.unusedVariables false
set_option maxHeartbeats 4000000
set_option maxRecDepth 100000
namespace Go.Proofs.Ytbofobjofngoeaa.EngS
open Go Go.Proofs Go.Eng Go.RowKit
theorem bytes_ok5 {code : List Int} (h : ∀ y ∈ code, (Lit.int .u8 y).wf = true) : BytesOK code := by
  intro y hy
  have := h y hy
  simp [Lit.wf, IntKind.min, IntKind.max, IntKind.signed, IntKind.bits] at this
  omega
theorem mrgR_len {a b : List Edt} {n : Int} : (mrgR a b n).length ≤ 24 ∧ ∀ e ∈ mrgR a b n, e.ck.length ≤ 3 := by
  cases ho : mrgO a b n with
  | none => rw [(mrg_none ho).2]; exact ⟨by simp, by simp⟩
  | some m =>
    rw [(mrg_some ho).2]
    split
    · rename_i hh
      exact ⟨hist_len hh, fun e he => hist_ck hh e he⟩
    · exact ⟨by simp, by simp⟩
theorem law_FnHistories (code : List Int) (hw : code.length ≤ maxLen ∧ ∀ y ∈ code, (Lit.int .u8 y).wf = true) : ACall Try.prog 13 [.v (.sl true 1 (bys code))] [.x] [boo true] := by
  have hm : maxLen = 9223372036854775807 := rfl
  have hc : code.length ≤ 9223372036854775807 := hw.1
  have hb : BytesOK code := bytes_ok5 hw.2
  clear hw hm
  by_cases hbig : 65536 < (code.length : Int)
  · refine ACall.of (N := 122) tok Try.func13 rfl rfl rfl (by simp) ?_
    repeat' (first | with_reducible refine OutOK.done ?_ | refine thenQ_n ?_ | refine thenQ_r ?_ | refine thenQ_e ?_ | refine AW.seq ?_ | refine AW.reg tok (by simp [*]; rfl) ?_ | refine AW.ifB (by simp [*]; rfl) ?_ | refine IfG.t ?_ | refine IfG.f ?_ | ((first | refine IfG.p (fun hg => ?_) (fun hg => ?_) | refine IfG.n (fun hg => ?_) (fun hg => ?_) | refine OutOK.gateP (fun hg => ?_) (fun hg => ?_) | refine OutOK.gateN (fun hg => ?_) (fun hg => ?_) | refine IfG.g (fun hg => ?_) (fun hg => ?_) | refine OutOK.gate (fun hg => ?_) (fun hg => ?_)) <;> (try (have hg' := hg; simp at hg'))) | (refine OutOK.callF [] (by simp [*]; rfl) (by simp [*]; rfl) (by simp [*]; rfl) hb26 (by apply c_impl_IsValidHistory <;> first | assumption | exact Hd.out (by assumption) | omega) ⟨by simp [*], by simp [*], by simp [*], by simp [*], by simp [*]⟩ (by simp [*]) (by simp [*]; rfl) ?_) | (refine OutOK.callF [] (by simp [*]; rfl) (by simp [*]; rfl) (by simp [*]; rfl) hb41 (by apply c_spec_KnownBy <;> first | assumption | exact Hd.out (by assumption) | omega) ⟨by simp [*], by simp [*], by simp [*], by simp [*], by simp [*]⟩ (by simp [*]) (by simp [*]; rfl) ?_) | (refine OutOK.callF [] (by simp [*]; rfl) (by simp [*]; rfl) (by simp [*]; rfl) hb42 (by apply c_impl_KnownBy <;> first | assumption | exact Hd.out (by assumption) | omega) ⟨by simp [*], by simp [*], by simp [*], by simp [*], by simp [*]⟩ (by simp [*]) (by simp [*]; rfl) ?_) | (refine OutOK.callF [] (by simp [*]; rfl) (by simp [*]; rfl) (by simp [*]; rfl) hb49 (by apply c_spec_MergeHistories <;> first | assumption | exact Hd.out (by assumption) | omega) ⟨by simp [*], by simp [*], by simp [*], by simp [*], by simp [*]⟩ (by simp [*]) (by simp [*]; rfl) ?_) | (refine OutOK.callF [] (by simp [*]; rfl) (by simp [*]; rfl) (by simp [*]; rfl) hb50 (by apply c_impl_MergeHistories <;> first | assumption | exact Hd.out (by assumption) | omega) ⟨by simp [*], by simp [*], by simp [*], by simp [*], by simp [*]⟩ (by simp [*]) (by simp [*]; rfl) ?_) | (refine OutOK.callF [] (by simp [*]; rfl) (by simp [*]; rfl) (by simp [*]; rfl) hb54 (by apply c_spec_DrawMergeHistories <;> first | assumption | exact Hd.out (by assumption) | omega) ⟨by simp [*], by simp [*], by simp [*], by simp [*], by simp [*]⟩ (by simp [*]) (by simp [*]; rfl) ?_) | (refine OutOK.callF [] (by simp [*]; rfl) (by simp [*]; rfl) (by simp [*]; rfl) hb55 (by apply c_laws_vEdits <;> first | assumption | exact Hd.out (by assumption) | omega) ⟨by simp [*], by simp [*], by simp [*], by simp [*], by simp [*]⟩ (by simp [*]) (by simp [*]; rfl) ?_) | (refine OutOK.callF [] (by simp [*]; rfl) (by simp [*]; rfl) (by simp [*]; rfl) hb56 (by apply c_spec_DrawKnownBy <;> first | assumption | exact Hd.out (by assumption) | omega) ⟨by simp [*], by simp [*], by simp [*], by simp [*], by simp [*]⟩ (by simp [*]) (by simp [*]; rfl) ?_) | (refine OutOK.callF [] (by simp [*]; rfl) (by simp [*]; rfl) (by simp [*]; rfl) hb14 (by apply c_laws_vBig <;> first | assumption | exact Hd.out (by assumption) | omega) ⟨by simp [*], by simp [*], by simp [*], by simp [*], by simp [*]⟩ (by simp [*]) (by simp [*]; rfl) ?_) | refine OutOK.run (by simp [*]; rfl) ?_ | refine AW.ret ?_ | refine AW.skip ?_ | refine AW.exit ?_ | refine fin_r ?_ | refine fin_n ?_ | refine AW.block ?_ | refine blockQ_n ?_ | refine blockQ_r ?_ | refine blockQ_e ?_ | refine blockQ_o rfl ?_)
    all_goals (try simp [*, Try.f13])
  refine ACallX.one ?_
  have cd1 := x_spec_DrawMergeHistories code hc hb
  have cd2 := x_spec_DrawKnownBy code hc hb
  refine ACallX.of (N := 122) tok Try.func13 rfl rfl rfl (by simp) ?_
  repeat' (first | with_reducible refine OutOK.done ?_ | refine thenQ_n ?_ | refine thenQ_r ?_ | refine thenQ_e ?_ | refine AW.seq ?_ | refine AW.reg tok (by simp [*]; rfl) ?_ | refine AW.ifB (by simp [*]; rfl) ?_ | refine IfG.t ?_ | refine IfG.f ?_ | ((first | refine IfG.p (fun hg => ?_) (fun hg => ?_) | refine IfG.n (fun hg => ?_) (fun hg => ?_) | refine OutOK.gateP (fun hg => ?_) (fun hg => ?_) | refine OutOK.gateN (fun hg => ?_) (fun hg => ?_) | refine IfG.g (fun hg => ?_) (fun hg => ?_) | refine OutOK.gate (fun hg => ?_) (fun hg => ?_)) <;> (try (have hg' := hg; simp at hg'))) | (refine OutOK.callF [] (by simp [*]; rfl) (by simp [*]; rfl) (by simp [*]; rfl) hb14 (by apply c_laws_vBig <;> first | assumption | exact Hd.out (by assumption) | omega) ⟨by simp [*], by simp [*], by simp [*], by simp [*], by simp [*]⟩ (by simp [*]) (by simp [*]; rfl) ?_) | refine OutOK.run (by simp [*]; rfl) ?_ | refine AW.ret ?_ | refine AW.skip ?_ | refine AW.exit ?_ | refine fin_r ?_ | refine fin_n ?_ | refine AW.block ?_ | refine blockQ_n ?_ | refine blockQ_r ?_ | refine blockQ_e ?_ | refine blockQ_o rfl ?_)
  refine OutOK.callX [] (by simp [*]; rfl) (by simp [*]; rfl) (by simp [*]; rfl) hb54 (by apply cd1 <;> first | assumption | exact Hd.out (by assumption) | omega) ⟨by simp [*], by simp [*], by simp [*]⟩ (by simp [*]) (fun x hx => ?_)
  obtain ⟨a, b, n⟩ := x
  obtain ⟨⟨h1, h2⟩, h3, h4⟩ := hx
  simp only at h1 h2 h3 h4
  have c1 := c_impl_MergeHistories a b n (by omega) h2 (by omega) h4
  have c2 := c_impl_MergeHistories b a n (by omega) h4 (by omega) h2
  have c3 := c_spec_MergeHistories a b n (by omega) h2 (by omega) h4
  rw [(mrg_comm b a n).1, (mrg_comm b a n).2] at c2
  obtain ⟨m1, m2⟩ := mrgR_len (a := a) (b := b) (n := n)
  have cv := c_laws_vEdits (mrgR a b n) (by omega) (fun e he => by have := m2 e he; omega)
  clear h2 h4 m2 cd1
  generalize mrgR a b n = R at *
  generalize mrgB a b n = B at *
  refine CallX.mk' ⟨by simp [*], by simp [*], by simp [*], by simp [*], by simp [*]⟩ (by simp [*]; rfl) ?_
  repeat' (first | with_reducible refine OutOK.done ?_ | refine thenQ_n ?_ | refine thenQ_r ?_ | refine thenQ_e ?_ | refine AW.seq ?_ | refine AW.reg tok (by simp [*]; rfl) ?_ | refine AW.ifB (by simp [*]; rfl) ?_ | refine IfG.t ?_ | refine IfG.f ?_ | ((first | refine IfG.p (fun hg => ?_) (fun hg => ?_) | refine IfG.n (fun hg => ?_) (fun hg => ?_) | refine OutOK.gateP (fun hg => ?_) (fun hg => ?_) | refine OutOK.gateN (fun hg => ?_) (fun hg => ?_) | refine IfG.g (fun hg => ?_) (fun hg => ?_) | refine OutOK.gate (fun hg => ?_) (fun hg => ?_)) <;> (try (have hg' := hg; simp at hg'))) | (refine OutOK.callF [] (by simp [*]; rfl) (by simp [*]; rfl) (by simp [*]; rfl) hb50 (by apply c1 <;> first | assumption | exact Hd.out (by assumption) | omega) ⟨by simp [*], by simp [*], by simp [*], by simp [*], by simp [*]⟩ (by simp [*]) (by simp [*]; rfl) ?_) | (refine OutOK.callF [] (by simp [*]; rfl) (by simp [*]; rfl) (by simp [*]; rfl) hb50 (by apply c2 <;> first | assumption | exact Hd.out (by assumption) | omega) ⟨by simp [*], by simp [*], by simp [*], by simp [*], by simp [*]⟩ (by simp [*]) (by simp [*]; rfl) ?_) | (refine OutOK.callF [] (by simp [*]; rfl) (by simp [*]; rfl) (by simp [*]; rfl) hb49 (by apply c3 <;> first | assumption | exact Hd.out (by assumption) | omega) ⟨by simp [*], by simp [*], by simp [*], by simp [*], by simp [*]⟩ (by simp [*]) (by simp [*]; rfl) ?_) | (refine OutOK.callF [] (by simp [*]; rfl) (by simp [*]; rfl) (by simp [*]; rfl) hb55 (by apply cv <;> first | assumption | exact Hd.out (by assumption) | omega) ⟨by simp [*], by simp [*], by simp [*], by simp [*], by simp [*]⟩ (by simp [*]) (by simp [*]; rfl) ?_) | refine OutOK.run (by simp [*]; rfl) ?_ | refine AW.ret ?_ | refine AW.skip ?_ | refine AW.exit ?_ | refine fin_r ?_ | refine fin_n ?_ | refine AW.block ?_ | refine blockQ_n ?_ | refine blockQ_r ?_ | refine blockQ_e ?_ | refine blockQ_o rfl ?_)
  clear c1 c2 c3 cv
  refine OutOK.callX [] (by simp [*]; rfl) (by simp [*]; rfl) (by simp [*]; rfl) hb56 (by apply cd2 <;> first | assumption | exact Hd.out (by assumption) | omega) ⟨by simp [*], by simp [*], by simp [*]⟩ (by simp [*]) (fun x hx => ?_)
  obtain ⟨l, k, t⟩ := x
  obtain ⟨g1, g2⟩ := hx
  simp only at g1 g2
  clear cd2
  have d1 := c_impl_KnownBy l k t (by omega) g2
  have d2 := c_spec_KnownBy l k t (by omega) g2
  cases hB : knwB l k t
  · have hR : knwR l k t = [] := by rw [knwR, hB]; rfl
    rw [hB, hR] at d1 d2
    have cv := c_laws_vEdits [] (by simp) (by simp)
    clear hB hR g2
    refine CallX.mk' ⟨by simp [*], by simp [*], by simp [*], by simp [*], by simp [*]⟩ (by simp [*]; rfl) ?_
    repeat' (first | with_reducible refine OutOK.done ?_ | refine thenQ_n ?_ | refine thenQ_r ?_ | refine thenQ_e ?_ | refine AW.seq ?_ | refine AW.reg tok (by simp [*]; rfl) ?_ | refine AW.ifB (by simp [*]; rfl) ?_ | refine IfG.t ?_ | refine IfG.f ?_ | ((first | refine IfG.p (fun hg => ?_) (fun hg => ?_) | refine IfG.n (fun hg => ?_) (fun hg => ?_) | refine OutOK.gateP (fun hg => ?_) (fun hg => ?_) | refine OutOK.gateN (fun hg => ?_) (fun hg => ?_) | refine IfG.g (fun hg => ?_) (fun hg => ?_) | refine OutOK.gate (fun hg => ?_) (fun hg => ?_)) <;> (try (have hg' := hg; simp at hg'))) | (refine OutOK.callF [] (by simp [*]; rfl) (by simp [*]; rfl) (by simp [*]; rfl) hb42 (by apply d1 <;> first | assumption | exact Hd.out (by assumption) | omega) ⟨by simp [*], by simp [*], by simp [*], by simp [*], by simp [*]⟩ (by simp [*]) (by simp [*]; rfl) ?_) | (refine OutOK.callF [] (by simp [*]; rfl) (by simp [*]; rfl) (by simp [*]; rfl) hb41 (by apply d2 <;> first | assumption | exact Hd.out (by assumption) | omega) ⟨by simp [*], by simp [*], by simp [*], by simp [*], by simp [*]⟩ (by simp [*]) (by simp [*]; rfl) ?_) | (refine OutOK.callF [] (by simp [*]; rfl) (by simp [*]; rfl) (by simp [*]; rfl) hb55 (by apply cv <;> first | assumption | exact Hd.out (by assumption) | omega) ⟨by simp [*], by simp [*], by simp [*], by simp [*], by simp [*]⟩ (by simp [*]) (by simp [*]; rfl) ?_) | refine OutOK.run (by simp [*]; rfl) ?_ | refine AW.ret ?_ | refine AW.skip ?_ | refine AW.exit ?_ | refine fin_r ?_ | refine fin_n ?_ | refine AW.block ?_ | refine blockQ_n ?_ | refine blockQ_r ?_ | refine blockQ_e ?_ | refine blockQ_o rfl ?_)
    exact ⟨(), trivial, by simp [Try.f13]⟩
  · obtain ⟨k1, k2⟩ := known_ok hB
    have hl : hist l k = true := by simp only [knwB, Bool.and_eq_true] at hB; exact hB.1
    have hlb : Hd (∀ e ∈ knwR l k t, EdtB e) := fun e he => g2 e (k2 e he)
    obtain ⟨q1, q2⟩ := mrg_sub hl k1 k2
    have hkl := hist_len k1
    have hkc := hist_ck k1
    have hll := hist_len hl
    have hlc := hist_ck hl
    have d3 := c_impl_MergeHistories l (knwR l k t) k (by omega) g2 (by omega) hlb.out
    have d4 := c_impl_IsValidHistory (knwR l k t) k (by omega) (fun e he => (hlb.out e he).w)
    rw [q1, q2] at d3
    rw [k1] at d4
    rw [hB] at d1 d2
    have cvk := c_laws_vEdits (knwR l k t) (by omega) (fun e he => by have := hkc e he; omega)
    have cvl := c_laws_vEdits l (by omega) (fun e he => by have := hlc e he; omega)
    clear g2 k1 k2 hl hlb q1 q2 hkc hlc hB
    generalize knwR l k t = K at *
    refine CallX.mk' ⟨by simp [*], by simp [*], by simp [*], by simp [*], by simp [*]⟩ (by simp [*]; rfl) ?_
    repeat' (first | with_reducible refine OutOK.done ?_ | refine thenQ_n ?_ | refine thenQ_r ?_ | refine thenQ_e ?_ | refine AW.seq ?_ | refine AW.reg tok (by simp [*]; rfl) ?_ | refine AW.ifB (by simp [*]; rfl) ?_ | refine IfG.t ?_ | refine IfG.f ?_ | ((first | refine IfG.p (fun hg => ?_) (fun hg => ?_) | refine IfG.n (fun hg => ?_) (fun hg => ?_) | refine OutOK.gateP (fun hg => ?_) (fun hg => ?_) | refine OutOK.gateN (fun hg => ?_) (fun hg => ?_) | refine IfG.g (fun hg => ?_) (fun hg => ?_) | refine OutOK.gate (fun hg => ?_) (fun hg => ?_)) <;> (try (have hg' := hg; simp at hg'))) | (refine OutOK.callF [] (by simp [*]; rfl) (by simp [*]; rfl) (by simp [*]; rfl) hb42 (by apply d1 <;> first | assumption | exact Hd.out (by assumption) | omega) ⟨by simp [*], by simp [*], by simp [*], by simp [*], by simp [*]⟩ (by simp [*]) (by simp [*]; rfl) ?_) | (refine OutOK.callF [] (by simp [*]; rfl) (by simp [*]; rfl) (by simp [*]; rfl) hb41 (by apply d2 <;> first | assumption | exact Hd.out (by assumption) | omega) ⟨by simp [*], by simp [*], by simp [*], by simp [*], by simp [*]⟩ (by simp [*]) (by simp [*]; rfl) ?_) | (refine OutOK.callF [] (by simp [*]; rfl) (by simp [*]; rfl) (by simp [*]; rfl) hb50 (by apply d3 <;> first | assumption | exact Hd.out (by assumption) | omega) ⟨by simp [*], by simp [*], by simp [*], by simp [*], by simp [*]⟩ (by simp [*]) (by simp [*]; rfl) ?_) | (refine OutOK.callF [] (by simp [*]; rfl) (by simp [*]; rfl) (by simp [*]; rfl) hb26 (by apply d4 <;> first | assumption | exact Hd.out (by assumption) | omega) ⟨by simp [*], by simp [*], by simp [*], by simp [*], by simp [*]⟩ (by simp [*]) (by simp [*]; rfl) ?_) | (refine OutOK.callF [] (by simp [*]; rfl) (by simp [*]; rfl) (by simp [*]; rfl) hb55 (by apply cvk <;> first | assumption | exact Hd.out (by assumption) | omega) ⟨by simp [*], by simp [*], by simp [*], by simp [*], by simp [*]⟩ (by simp [*]) (by simp [*]; rfl) ?_) | (refine OutOK.callF [] (by simp [*]; rfl) (by simp [*]; rfl) (by simp [*]; rfl) hb55 (by apply cvl <;> first | assumption | exact Hd.out (by assumption) | omega) ⟨by simp [*], by simp [*], by simp [*], by simp [*], by simp [*]⟩ (by simp [*]) (by simp [*]; rfl) ?_) | refine OutOK.run (by simp [*]; rfl) ?_ | refine AW.ret ?_ | refine AW.skip ?_ | refine AW.exit ?_ | refine fin_r ?_ | refine fin_n ?_ | refine AW.block ?_ | refine blockQ_n ?_ | refine blockQ_r ?_ | refine blockQ_e ?_ | refine blockQ_o rfl ?_)
    exact ⟨(), trivial, by simp [Try.f13]⟩
end Go.Proofs.Ytbofobjofngoeaa.EngS

