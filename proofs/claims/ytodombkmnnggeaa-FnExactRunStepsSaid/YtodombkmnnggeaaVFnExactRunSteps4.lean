-- Written by this session's texts and program for this claim. Lean checks it.
import Derived.Test.YtodombkmnnggeaaVFnExactRunSteps3
set_option autoImplicit true
set_option relaxedAutoImplicit true
set_option linter.unusedSimpArgs false
set_option linter.unusedVariables false
set_option maxHeartbeats 4000000
set_option maxRecDepth 100000
namespace Go.Proofs.Ytodombkmnnggeaa.EngS
open Go Go.Proofs Go.Eng Go.RowKit
attribute [local irreducible] Go.RowKit.wrap64
theorem smOK_nm {l s i} (h : nameOK s.hol = false) : smOK l s i = false := by simp [smOK, smA, h]
theorem smOK_tak {l s i} (h : inR 1 500 s.tak = false) : smOK l s i = false := by simp [smOK, smA, h]
theorem smOK_ctx {l s i} (h : inR 1 999 s.ctx = false) : smOK l s i = false := by simp [smOK, smA, h]
theorem smOK_id {l : List Smp} {s : Smp} {i : Int} (e : Hd (wrap64 (i + 1) = i + 1)) (h : ¬ s.id = i + 1) : smOK l s i = false := by
  have := e.out
  simp [smOK, smA, this, h]
theorem smOK_c {l s i} (h : smC l s = false) : smOK l s i = false := by simp [smOK, h]
def IVSq (l : List Smp) (i : Nat) (e : Exit) (st : St) : Prop :=
  (e = .ret ∧ goodS l = false ∧ FinP T Try.f72.results.toList [.v (.sl true 8 (smps l))] [.x] [boo false] st) ∨
  (e = .normal ∧ ∃ i' : Nat, (i' ≤ l.length ∧ Hd (∀ (j : Nat) (hj : j < l.length), j < i' → smOK l l[j] j = smD l l[j] ∧ l[j].id = ((j + 1 : Nat) : Int))) ∧
    LessL st [(0, .c (.sl true 8 (smps l))), (3, .rf 14000 []), (15, .c (.sl true 8 (smps l))), (16, .c (.sc (.int .i64 (l.length : Int)))), (17, .c (.sc (.int .i64 (i' : Int))))] [(14000, .sv (.sl false 1 (ints (gvn l i'))))] ∧ l.length - i' < l.length - i)
theorem w_IVS_z (l : List Smp) (i : Nat) (hl : i < l.length) (h16'' : ¬ 16 < l.length) (hs : Hd (∀ (j : Nat) (hj : j < l.length), j < i → smOK l l[j] j = smD l l[j] ∧ l[j].id = ((j + 1 : Nat) : Int)))
    (e1 : wrap64 ((i : Int) + 1) = (i : Int) + 1) (hsz : l[i].hol.size ≤ 9223372036854775807) (hw' : Hd (SmpW l[i])) (b2 : inR 0 (i : Int) l[i].par = true) (p : Nat) (hp' : l[i].par = (p : Int)) (hpl : p < l.length + 1) (hpi : p ≤ i) (hp0 : p = 0) : AW Try.prog 127 (cAt Try.f72 [2, 2, 2, 1, 2, 5, 7]) (mk [(0, .c (.sl true 8 (smps l))), (3, .rf 14000 []), (15, .c (.sl true 8 (smps l))), (16, .c (.sc (.int .i64 (l.length : Int)))), (17, .c (.sc (.int .i64 (i : Int))))] [(14000, .sv (.sl false 1 (ints (gvn l i))))]) (IVSq l i) := by
  have e1' : Hd (wrap64 ((i : Int) + 1) = (i : Int) + 1) := e1
  have hga := gvn_at (l := l) (i := i) hpl
  have hst : Hd _ := gvn_step hl hp' hpl
  have hp2 : Hd (l[i].par = (p : Int)) := hp'
  have b2p : inR 0 (i : Int) (p : Int) = true := by rw [← hp']; exact b2
  subst hp0
  have b2z : inR 0 (i : Int) 0 = true := by simpa using b2p
  have hC : Hd (smC l l[i] = true) := by simp [Hd, smC, hp']
  repeat' (first | with_reducible refine OutOK.done ?_ | refine thenQ_n ?_ | refine thenQ_r ?_ | refine thenQ_e ?_ | refine AW.seq ?_ | refine AW.dreg tok mixed [12]  [(0, false), (1, false), (2, false), (3, false), (4, false), (5, false), (11, false), (6, false), (7, false), (8, false), (9, false), (10, false), (12, true), (13, false), (14, false)] (by decide +kernel) rfl (by simp [*]; rfl) ?_ | refine AW.dreg tok mixed [6]  [(0, false), (1, false), (5, false), (2, false), (3, false), (4, false), (6, true), (7, false), (8, false), (9, false)] (by decide +kernel) rfl (by simp [*]; rfl) ?_ | refine AW.dreg tok mixed [6]  [(0, false), (1, false), (5, false), (2, false), (3, false), (4, false), (6, true), (7, false)] (by decide +kernel) rfl (by simp [*]; rfl) ?_ | refine AW.reg tok (by simp [*]; rfl) ?_ | refine AW.ifB (by simp [*]; rfl) ?_ | refine IfG.t ?_ | refine IfG.f ?_ | (refine IfG.p (fun hg => ?_) (fun hg => ?_) <;> (try (have hg' := hg; simp at hg'))) | (refine IfG.n (fun hg => ?_) (fun hg => ?_) <;> (try (have hg' := hg; simp at hg'))) | (refine OutOK.gateP (fun hg => ?_) (fun hg => ?_) <;> (try (have hg' := hg; simp at hg'))) | (refine OutOK.gateN (fun hg => ?_) (fun hg => ?_) <;> (try (have hg' := hg; simp at hg'))) | (refine IfG.g (fun hg => ?_) (fun hg => ?_) <;> (try (have hg' := hg; simp at hg'))) | (refine OutOK.gate (fun hg => ?_) (fun hg => ?_) <;> (try (have hg' := hg; simp at hg'))) | (refine OutOK.callF [] (by simp [*]; rfl) (by simp [*]; rfl) (by simp [*]; rfl) hb76 (by apply c_impl_within <;> first | assumption | exact Hd.out (by assumption) | ((try (clear e0)); (try (clear e1)); (try (clear e2)); (try (clear e3)); (try (clear e4)); (try (clear e5)); (try (clear e6)); (try (clear e7)); (try (clear e8)); (try (clear e9)); (try (clear e10)); (try (clear e11)); omega)) ⟨by simp [*], by simp [*], by simp [*], by simp [*], by simp [*]⟩ (by simp [*]) (by simp [*]; rfl) ?_) | (refine OutOK.callF [] (by simp [*]; rfl) (by simp [*]; rfl) (by simp [*]; rfl) hb110 (by apply c_impl_isNumber <;> first | assumption | exact Hd.out (by assumption) | ((try (clear e0)); (try (clear e1)); (try (clear e2)); (try (clear e3)); (try (clear e4)); (try (clear e5)); (try (clear e6)); (try (clear e7)); (try (clear e8)); (try (clear e9)); (try (clear e10)); (try (clear e11)); omega)) ⟨by simp [*], by simp [*], by simp [*], by simp [*], by simp [*]⟩ (by simp [*]) (by simp [*]; rfl) ?_) | (refine OutOK.callF [] (by simp [*]; rfl) (by simp [*]; rfl) (by simp [*]; rfl) hb111 (by apply c_impl_isName <;> first | assumption | exact Hd.out (by assumption) | ((try (clear e0)); (try (clear e1)); (try (clear e2)); (try (clear e3)); (try (clear e4)); (try (clear e5)); (try (clear e6)); (try (clear e7)); (try (clear e8)); (try (clear e9)); (try (clear e10)); (try (clear e11)); omega)) ⟨by simp [*], by simp [*], by simp [*], by simp [*], by simp [*]⟩ (by simp [*]) (by simp [*]; rfl) ?_) | refine OutOK.run (by simp [*]; rfl) ?_ | refine AW.ret ?_ | refine AW.skip ?_ | refine AW.exit ?_ | refine fin_r ?_ | refine fin_n ?_ | refine AW.block ?_ | refine blockQ_n ?_ | refine blockQ_r ?_ | refine blockQ_e ?_ | refine blockQ_o rfl ?_)
  all_goals first
    | (have hn : goodS l = false := by
         first
           | exact goodS_no hl (smOK_nm (by with_reducible assumption))
           | exact goodS_no hl (smOK_sum (by with_reducible assumption))
           | exact goodS_no hl (smOK_giv hw'.out (by with_reducible assumption) (by with_reducible assumption) (by with_reducible assumption) (by with_reducible assumption))
           | exact goodS_no hl (smOK_usd (by with_reducible assumption))
           | exact goodS_no hl (smOK_lef (by with_reducible assumption))
           | exact goodS_no hl (smOK_tak (by with_reducible assumption))
           | exact goodS_no hl (smOK_ctx (by with_reducible assumption))
           | exact goodS_no hl (smOK_id e1' (by with_reducible assumption))
           | exact goodS_no hl (smOK_c (by rw [hC.out]; simp [*]; done))
       refine .inl ⟨rfl, hn, ?_⟩
       simp [Try.f72]; done)
    | (have hC2 : smC l l[i] = true := by rw [hC.out] 
       have hid2 : l[i].id = ((i + 1 : Nat) : Int) := by
         have hq : l[i].id = (i : Int) + 1 := by with_reducible assumption
         rw [hq]; exact (Int.natCast_add i 1).symm
       have hfin : smOK l l[i] i = smD l l[i] := smOK_parts (by rw [e1'.out]; with_reducible assumption) b2 (by with_reducible assumption) (by with_reducible assumption) (by with_reducible assumption) (by with_reducible assumption) (by with_reducible assumption) (by with_reducible assumption) (by with_reducible assumption) hC2
       refine .inr ⟨rfl, i + 1, ⟨hl, fun j' hj' hji => ?_⟩, ⟨by simp, by simp [← hst.out], by simp⟩, Nat.sub_lt_sub_left hl (Nat.lt_succ_self i)⟩
       rcases Nat.lt_succ_iff_lt_or_eq.1 hji with h1 | h1
       · exact hs j' hj' h1
       · subst h1
         exact ⟨hfin, hid2⟩)

theorem w_IVS_p (l : List Smp) (i : Nat) (hl : i < l.length) (h16'' : ¬ 16 < l.length) (hs : Hd (∀ (j : Nat) (hj : j < l.length), j < i → smOK l l[j] j = smD l l[j] ∧ l[j].id = ((j + 1 : Nat) : Int)))
    (e1 : wrap64 ((i : Int) + 1) = (i : Int) + 1) (hsz : l[i].hol.size ≤ 9223372036854775807) (hw' : Hd (SmpW l[i])) (b2 : inR 0 (i : Int) l[i].par = true) (p : Nat) (hp' : l[i].par = (p : Int)) (hpl : p < l.length + 1) (hpi : p ≤ i) (hp0 : ¬ p = 0) : AW Try.prog 127 (cAt Try.f72 [2, 2, 2, 1, 2, 5, 7]) (mk [(0, .c (.sl true 8 (smps l))), (3, .rf 14000 []), (15, .c (.sl true 8 (smps l))), (16, .c (.sc (.int .i64 (l.length : Int)))), (17, .c (.sc (.int .i64 (i : Int))))] [(14000, .sv (.sl false 1 (ints (gvn l i))))]) (IVSq l i) := by
  have e1' : Hd (wrap64 ((i : Int) + 1) = (i : Int) + 1) := e1
  have hga := gvn_at (l := l) (i := i) hpl
  have hst : Hd _ := gvn_step hl hp' hpl
  have hp2 : Hd (l[i].par = (p : Int)) := hp'
  have b2p : inR 0 (i : Int) (p : Int) = true := by rw [← hp']; exact b2
  have hj : wrap64 ((p : Int) - 1) = ((p - 1 : Nat) : Int) := by rw [w64 (by clear e1; omega) (by clear e1; omega)]; clear e1; omega
  have hp0' : (0 : Int) < p := by clear e1 hj; omega
  have hp0'' : 0 < p := by clear e1 hj; omega
  have hpl2 : (p : Int) < (l.length : Int) + 1 := by clear e1 hj; omega
  have hC : Hd (smC l l[i] = decide ((l[p - 1]?.getD default).ctx = l[i].ctx)) := by
    have : ((p : Int) - 1).toNat = p - 1 := by clear e1 hj; omega
    simp [Hd, smC, hp', hp0, this]
  have hjl : p - 1 < l.length := by clear e1 hj; omega
  generalize p - 1 = q at *
  repeat' (first | with_reducible refine OutOK.done ?_ | refine thenQ_n ?_ | refine thenQ_r ?_ | refine thenQ_e ?_ | refine AW.seq ?_ | refine AW.dreg tok mixed [12]  [(0, false), (1, false), (2, false), (3, false), (4, false), (5, false), (11, false), (6, false), (7, false), (8, false), (9, false), (10, false), (12, true), (13, false), (14, false)] (by decide +kernel) rfl (by simp [*]; rfl) ?_ | refine AW.dreg tok mixed [6]  [(0, false), (1, false), (5, false), (2, false), (3, false), (4, false), (6, true), (7, false), (8, false), (9, false)] (by decide +kernel) rfl (by simp [*]; rfl) ?_ | refine AW.dreg tok mixed [6]  [(0, false), (1, false), (5, false), (2, false), (3, false), (4, false), (6, true), (7, false)] (by decide +kernel) rfl (by simp [*]; rfl) ?_ | refine AW.reg tok (by simp [*]; rfl) ?_ | refine AW.ifB (by simp [*]; rfl) ?_ | refine IfG.t ?_ | refine IfG.f ?_ | (refine IfG.p (fun hg => ?_) (fun hg => ?_) <;> (try (have hg' := hg; simp at hg'))) | (refine IfG.n (fun hg => ?_) (fun hg => ?_) <;> (try (have hg' := hg; simp at hg'))) | (refine OutOK.gateP (fun hg => ?_) (fun hg => ?_) <;> (try (have hg' := hg; simp at hg'))) | (refine OutOK.gateN (fun hg => ?_) (fun hg => ?_) <;> (try (have hg' := hg; simp at hg'))) | (refine IfG.g (fun hg => ?_) (fun hg => ?_) <;> (try (have hg' := hg; simp at hg'))) | (refine OutOK.gate (fun hg => ?_) (fun hg => ?_) <;> (try (have hg' := hg; simp at hg'))) | (refine OutOK.callF [] (by simp [*]; rfl) (by simp [*]; rfl) (by simp [*]; rfl) hb76 (by apply c_impl_within <;> first | assumption | exact Hd.out (by assumption) | ((try (clear e0)); (try (clear e1)); (try (clear e2)); (try (clear e3)); (try (clear e4)); (try (clear e5)); (try (clear e6)); (try (clear e7)); (try (clear e8)); (try (clear e9)); (try (clear e10)); (try (clear e11)); omega)) ⟨by simp [*], by simp [*], by simp [*], by simp [*], by simp [*]⟩ (by simp [*]) (by simp [*]; rfl) ?_) | (refine OutOK.callF [] (by simp [*]; rfl) (by simp [*]; rfl) (by simp [*]; rfl) hb110 (by apply c_impl_isNumber <;> first | assumption | exact Hd.out (by assumption) | ((try (clear e0)); (try (clear e1)); (try (clear e2)); (try (clear e3)); (try (clear e4)); (try (clear e5)); (try (clear e6)); (try (clear e7)); (try (clear e8)); (try (clear e9)); (try (clear e10)); (try (clear e11)); omega)) ⟨by simp [*], by simp [*], by simp [*], by simp [*], by simp [*]⟩ (by simp [*]) (by simp [*]; rfl) ?_) | (refine OutOK.callF [] (by simp [*]; rfl) (by simp [*]; rfl) (by simp [*]; rfl) hb111 (by apply c_impl_isName <;> first | assumption | exact Hd.out (by assumption) | ((try (clear e0)); (try (clear e1)); (try (clear e2)); (try (clear e3)); (try (clear e4)); (try (clear e5)); (try (clear e6)); (try (clear e7)); (try (clear e8)); (try (clear e9)); (try (clear e10)); (try (clear e11)); omega)) ⟨by simp [*], by simp [*], by simp [*], by simp [*], by simp [*]⟩ (by simp [*]) (by simp [*]; rfl) ?_) | refine OutOK.run (by simp [*]; rfl) ?_ | refine AW.ret ?_ | refine AW.skip ?_ | refine AW.exit ?_ | refine fin_r ?_ | refine fin_n ?_ | refine AW.block ?_ | refine blockQ_n ?_ | refine blockQ_r ?_ | refine blockQ_e ?_ | refine blockQ_o rfl ?_)
  all_goals first
    | (have hn : goodS l = false := by
         first
           | exact goodS_no hl (smOK_nm (by with_reducible assumption))
           | exact goodS_no hl (smOK_sum (by with_reducible assumption))
           | exact goodS_no hl (smOK_giv hw'.out (by with_reducible assumption) (by with_reducible assumption) (by with_reducible assumption) (by with_reducible assumption))
           | exact goodS_no hl (smOK_usd (by with_reducible assumption))
           | exact goodS_no hl (smOK_lef (by with_reducible assumption))
           | exact goodS_no hl (smOK_tak (by with_reducible assumption))
           | exact goodS_no hl (smOK_ctx (by with_reducible assumption))
           | exact goodS_no hl (smOK_id e1' (by with_reducible assumption))
           | exact goodS_no hl (smOK_c (by rw [hC.out, List.getElem?_eq_getElem hjl, Option.getD_some]; exact decide_eq_false (by with_reducible assumption)))
       refine .inl ⟨rfl, hn, ?_⟩
       simp [Try.f72]; done)
    | (have hC2 : smC l l[i] = true := by
         rw [hC.out, List.getElem?_eq_getElem hjl, Option.getD_some]
         exact decide_eq_true (by with_reducible assumption)
       have hid2 : l[i].id = ((i + 1 : Nat) : Int) := by
         have hq : l[i].id = (i : Int) + 1 := by with_reducible assumption
         rw [hq]; exact (Int.natCast_add i 1).symm
       have hfin : smOK l l[i] i = smD l l[i] := smOK_parts (by rw [e1'.out]; with_reducible assumption) b2 (by with_reducible assumption) (by with_reducible assumption) (by with_reducible assumption) (by with_reducible assumption) (by with_reducible assumption) (by with_reducible assumption) (by with_reducible assumption) hC2
       refine .inr ⟨rfl, i + 1, ⟨hl, fun j' hj' hji => ?_⟩, ⟨by simp, by simp [← hst.out], by simp⟩, Nat.sub_lt_sub_left hl (Nat.lt_succ_self i)⟩
       rcases Nat.lt_succ_iff_lt_or_eq.1 hji with h1 | h1
       · exact hs j' hj' h1
       · subst h1
         exact ⟨hfin, hid2⟩)

theorem c_impl_IsValidSamples (l : List Smp) (h : l.length ≤ 9223372036854775806) (hh : ∀ s ∈ l, SmpW s) : ACall Try.prog 72 [.v (.sl true 8 (smps l))] [.x] [boo (goodS l)] := by
  rcases Nat.lt_or_ge 16 l.length with h16 | h16
  · have hn : goodS l = false := by simp [goodS]; omega
    have h16' : (16 : Int) < l.length := by omega
    clear hh
    refine ACall.of (N := 127) tok Try.func72 rfl rfl rfl (by simp) ?_
    repeat' (first | with_reducible refine OutOK.done ?_ | refine thenQ_n ?_ | refine thenQ_r ?_ | refine thenQ_e ?_ | refine AW.seq ?_ | refine AW.dreg tok mixed [12]  [(0, false), (1, false), (2, false), (3, false), (4, false), (5, false), (11, false), (6, false), (7, false), (8, false), (9, false), (10, false), (12, true), (13, false), (14, false)] (by decide +kernel) rfl (by simp [*]; rfl) ?_ | refine AW.dreg tok mixed [6]  [(0, false), (1, false), (5, false), (2, false), (3, false), (4, false), (6, true), (7, false), (8, false), (9, false)] (by decide +kernel) rfl (by simp [*]; rfl) ?_ | refine AW.dreg tok mixed [6]  [(0, false), (1, false), (5, false), (2, false), (3, false), (4, false), (6, true), (7, false)] (by decide +kernel) rfl (by simp [*]; rfl) ?_ | refine AW.reg tok (by simp [*]; rfl) ?_ | refine AW.ifB (by simp [*]; rfl) ?_ | refine IfG.t ?_ | refine IfG.f ?_ | (refine IfG.p (fun hg => ?_) (fun hg => ?_) <;> (try (have hg' := hg; simp at hg'))) | (refine IfG.n (fun hg => ?_) (fun hg => ?_) <;> (try (have hg' := hg; simp at hg'))) | (refine OutOK.gateP (fun hg => ?_) (fun hg => ?_) <;> (try (have hg' := hg; simp at hg'))) | (refine OutOK.gateN (fun hg => ?_) (fun hg => ?_) <;> (try (have hg' := hg; simp at hg'))) | (refine IfG.g (fun hg => ?_) (fun hg => ?_) <;> (try (have hg' := hg; simp at hg'))) | (refine OutOK.gate (fun hg => ?_) (fun hg => ?_) <;> (try (have hg' := hg; simp at hg'))) | (refine OutOK.callF [] (by simp [*]; rfl) (by simp [*]; rfl) (by simp [*]; rfl) hb76 (by apply c_impl_within <;> first | assumption | exact Hd.out (by assumption) | ((try (clear e0)); (try (clear e1)); (try (clear e2)); (try (clear e3)); (try (clear e4)); (try (clear e5)); (try (clear e6)); (try (clear e7)); (try (clear e8)); (try (clear e9)); (try (clear e10)); (try (clear e11)); omega)) ⟨by simp [*], by simp [*], by simp [*], by simp [*], by simp [*]⟩ (by simp [*]) (by simp [*]; rfl) ?_) | (refine OutOK.callF [] (by simp [*]; rfl) (by simp [*]; rfl) (by simp [*]; rfl) hb110 (by apply c_impl_isNumber <;> first | assumption | exact Hd.out (by assumption) | ((try (clear e0)); (try (clear e1)); (try (clear e2)); (try (clear e3)); (try (clear e4)); (try (clear e5)); (try (clear e6)); (try (clear e7)); (try (clear e8)); (try (clear e9)); (try (clear e10)); (try (clear e11)); omega)) ⟨by simp [*], by simp [*], by simp [*], by simp [*], by simp [*]⟩ (by simp [*]) (by simp [*]; rfl) ?_) | (refine OutOK.callF [] (by simp [*]; rfl) (by simp [*]; rfl) (by simp [*]; rfl) hb111 (by apply c_impl_isName <;> first | assumption | exact Hd.out (by assumption) | ((try (clear e0)); (try (clear e1)); (try (clear e2)); (try (clear e3)); (try (clear e4)); (try (clear e5)); (try (clear e6)); (try (clear e7)); (try (clear e8)); (try (clear e9)); (try (clear e10)); (try (clear e11)); omega)) ⟨by simp [*], by simp [*], by simp [*], by simp [*], by simp [*]⟩ (by simp [*]) (by simp [*]; rfl) ?_) | refine OutOK.run (by simp [*]; rfl) ?_ | refine AW.ret ?_ | refine AW.skip ?_ | refine AW.exit ?_ | refine fin_r ?_ | refine fin_n ?_ | refine AW.block ?_ | refine blockQ_n ?_ | refine blockQ_r ?_ | refine blockQ_e ?_ | refine blockQ_o rfl ?_)
    simp [Try.f72, hn]
  · have h16' : ¬ (16 : Int) < l.length := by omega
    have h16'' : ¬ 16 < l.length := by omega
    have hh2 : Hd (∀ s ∈ l, SmpW s) := hh
    obtain ⟨n1, hn1⟩ : ∃ n1, n1 = l.length + 1 := ⟨_, rfl⟩
    have z1 : wrap64 ((l.length : Int) + 1) = (n1 : Int) := by rw [w64 (by omega) (by omega)]; omega
    have z2 : (n1 : Int) * 8 ≤ 140737488355328 := by clear z1; omega
    have z3 : (n1 : Int) ≤ 4611686018427387904 := by clear z1; omega
    have hn1 : Hd (n1 = l.length + 1) := hn1
    rename_i hn1'
    clear hn1'
    clear hh
    refine ACall.of (N := 127) tok Try.func72 rfl rfl rfl (by simp) ?_
    repeat' (first | with_reducible refine OutOK.done ?_ | refine thenQ_n ?_ | refine thenQ_r ?_ | refine thenQ_e ?_ | refine AW.seq ?_ | refine AW.dreg tok mixed [12]  [(0, false), (1, false), (2, false), (3, false), (4, false), (5, false), (11, false), (6, false), (7, false), (8, false), (9, false), (10, false), (12, true), (13, false), (14, false)] (by decide +kernel) rfl (by simp [*]; rfl) ?_ | refine AW.dreg tok mixed [6]  [(0, false), (1, false), (5, false), (2, false), (3, false), (4, false), (6, true), (7, false), (8, false), (9, false)] (by decide +kernel) rfl (by simp [*]; rfl) ?_ | refine AW.dreg tok mixed [6]  [(0, false), (1, false), (5, false), (2, false), (3, false), (4, false), (6, true), (7, false)] (by decide +kernel) rfl (by simp [*]; rfl) ?_ | refine AW.reg tok (by simp [*]; rfl) ?_ | refine AW.ifB (by simp [*]; rfl) ?_ | refine IfG.t ?_ | refine IfG.f ?_ | (refine IfG.p (fun hg => ?_) (fun hg => ?_) <;> (try (have hg' := hg; simp at hg'))) | (refine IfG.n (fun hg => ?_) (fun hg => ?_) <;> (try (have hg' := hg; simp at hg'))) | (refine OutOK.gateP (fun hg => ?_) (fun hg => ?_) <;> (try (have hg' := hg; simp at hg'))) | (refine OutOK.gateN (fun hg => ?_) (fun hg => ?_) <;> (try (have hg' := hg; simp at hg'))) | (refine IfG.g (fun hg => ?_) (fun hg => ?_) <;> (try (have hg' := hg; simp at hg'))) | (refine OutOK.gate (fun hg => ?_) (fun hg => ?_) <;> (try (have hg' := hg; simp at hg'))) | (refine OutOK.callF [] (by simp [*]; rfl) (by simp [*]; rfl) (by simp [*]; rfl) hb76 (by apply c_impl_within <;> first | assumption | exact Hd.out (by assumption) | ((try (clear e0)); (try (clear e1)); (try (clear e2)); (try (clear e3)); (try (clear e4)); (try (clear e5)); (try (clear e6)); (try (clear e7)); (try (clear e8)); (try (clear e9)); (try (clear e10)); (try (clear e11)); omega)) ⟨by simp [*], by simp [*], by simp [*], by simp [*], by simp [*]⟩ (by simp [*]) (by simp [*]; rfl) ?_) | (refine OutOK.callF [] (by simp [*]; rfl) (by simp [*]; rfl) (by simp [*]; rfl) hb110 (by apply c_impl_isNumber <;> first | assumption | exact Hd.out (by assumption) | ((try (clear e0)); (try (clear e1)); (try (clear e2)); (try (clear e3)); (try (clear e4)); (try (clear e5)); (try (clear e6)); (try (clear e7)); (try (clear e8)); (try (clear e9)); (try (clear e10)); (try (clear e11)); omega)) ⟨by simp [*], by simp [*], by simp [*], by simp [*], by simp [*]⟩ (by simp [*]) (by simp [*]; rfl) ?_) | (refine OutOK.callF [] (by simp [*]; rfl) (by simp [*]; rfl) (by simp [*]; rfl) hb111 (by apply c_impl_isName <;> first | assumption | exact Hd.out (by assumption) | ((try (clear e0)); (try (clear e1)); (try (clear e2)); (try (clear e3)); (try (clear e4)); (try (clear e5)); (try (clear e6)); (try (clear e7)); (try (clear e8)); (try (clear e9)); (try (clear e10)); (try (clear e11)); omega)) ⟨by simp [*], by simp [*], by simp [*], by simp [*], by simp [*]⟩ (by simp [*]) (by simp [*]; rfl) ?_) | refine OutOK.run (by simp [*]; rfl) ?_ | refine AW.ret ?_ | refine AW.skip ?_ | refine AW.exit ?_ | refine fin_r ?_ | refine fin_n ?_ | refine AW.block ?_ | refine blockQ_n ?_ | refine blockQ_r ?_ | refine blockQ_e ?_ | refine blockQ_o rfl ?_)
    refine AW.loopL (fun i => i ≤ l.length ∧ Hd (∀ (j : Nat) (hj : j < l.length), j < i → smOK l l[j] j = smD l l[j] ∧ l[j].id = ((j + 1 : Nat) : Int))) (fun i => [(0, .c (.sl true 8 (smps l))), (3, .rf 14000 []), (15, .c (.sl true 8 (smps l))), (16, .c (.sc (.int .i64 (l.length : Int)))), (17, .c (.sc (.int .i64 (i : Int))))]) (fun i => [(14000, .sv (.sl false 1 (ints (gvn l i))))]) (fun i => l.length - i) 0 ⟨Nat.zero_le _, fun j _ hj => by omega⟩ ⟨by simp, by simp [gvn_zero, hn1.out], by simp⟩ ?_
    rintro i ⟨hi, hs⟩
    rcases Nat.lt_or_ge i l.length with hl | hl
    · clear z1 z2 z3 h16'
      have e1 : wrap64 ((i : Int) + 1) = (i : Int) + 1 := w64 (by omega) (by omega)
      have e1' : Hd (wrap64 ((i : Int) + 1) = (i : Int) + 1) := e1
      have hw := hh2.out l[i] (List.getElem_mem hl)
      have hsz := hw.1
      have hw' : Hd _ := hw
      clear hw
      cases b2 : inR 0 (i : Int) l[i].par with
      | false =>
        have hn : goodS l = false := goodS_no hl (by simp [smOK, smA, b2])
        repeat' (first | with_reducible refine OutOK.done ?_ | refine thenQ_n ?_ | refine thenQ_r ?_ | refine thenQ_e ?_ | refine AW.seq ?_ | refine AW.dreg tok mixed [12]  [(0, false), (1, false), (2, false), (3, false), (4, false), (5, false), (11, false), (6, false), (7, false), (8, false), (9, false), (10, false), (12, true), (13, false), (14, false)] (by decide +kernel) rfl (by simp [*]; rfl) ?_ | refine AW.dreg tok mixed [6]  [(0, false), (1, false), (5, false), (2, false), (3, false), (4, false), (6, true), (7, false), (8, false), (9, false)] (by decide +kernel) rfl (by simp [*]; rfl) ?_ | refine AW.dreg tok mixed [6]  [(0, false), (1, false), (5, false), (2, false), (3, false), (4, false), (6, true), (7, false)] (by decide +kernel) rfl (by simp [*]; rfl) ?_ | refine AW.reg tok (by simp [*]; rfl) ?_ | refine AW.ifB (by simp [*]; rfl) ?_ | refine IfG.t ?_ | refine IfG.f ?_ | (refine IfG.p (fun hg => ?_) (fun hg => ?_) <;> (try (have hg' := hg; simp at hg'))) | (refine IfG.n (fun hg => ?_) (fun hg => ?_) <;> (try (have hg' := hg; simp at hg'))) | (refine OutOK.gateP (fun hg => ?_) (fun hg => ?_) <;> (try (have hg' := hg; simp at hg'))) | (refine OutOK.gateN (fun hg => ?_) (fun hg => ?_) <;> (try (have hg' := hg; simp at hg'))) | (refine IfG.g (fun hg => ?_) (fun hg => ?_) <;> (try (have hg' := hg; simp at hg'))) | (refine OutOK.gate (fun hg => ?_) (fun hg => ?_) <;> (try (have hg' := hg; simp at hg'))) | (refine OutOK.callF [] (by simp [*]; rfl) (by simp [*]; rfl) (by simp [*]; rfl) hb76 (by apply c_impl_within <;> first | assumption | exact Hd.out (by assumption) | ((try (clear e0)); (try (clear e1)); (try (clear e2)); (try (clear e3)); (try (clear e4)); (try (clear e5)); (try (clear e6)); (try (clear e7)); (try (clear e8)); (try (clear e9)); (try (clear e10)); (try (clear e11)); omega)) ⟨by simp [*], by simp [*], by simp [*], by simp [*], by simp [*]⟩ (by simp [*]) (by simp [*]; rfl) ?_) | (refine OutOK.callF [] (by simp [*]; rfl) (by simp [*]; rfl) (by simp [*]; rfl) hb110 (by apply c_impl_isNumber <;> first | assumption | exact Hd.out (by assumption) | ((try (clear e0)); (try (clear e1)); (try (clear e2)); (try (clear e3)); (try (clear e4)); (try (clear e5)); (try (clear e6)); (try (clear e7)); (try (clear e8)); (try (clear e9)); (try (clear e10)); (try (clear e11)); omega)) ⟨by simp [*], by simp [*], by simp [*], by simp [*], by simp [*]⟩ (by simp [*]) (by simp [*]; rfl) ?_) | (refine OutOK.callF [] (by simp [*]; rfl) (by simp [*]; rfl) (by simp [*]; rfl) hb111 (by apply c_impl_isName <;> first | assumption | exact Hd.out (by assumption) | ((try (clear e0)); (try (clear e1)); (try (clear e2)); (try (clear e3)); (try (clear e4)); (try (clear e5)); (try (clear e6)); (try (clear e7)); (try (clear e8)); (try (clear e9)); (try (clear e10)); (try (clear e11)); omega)) ⟨by simp [*], by simp [*], by simp [*], by simp [*], by simp [*]⟩ (by simp [*]) (by simp [*]; rfl) ?_) | refine OutOK.run (by simp [*]; rfl) ?_ | refine AW.ret ?_ | refine AW.skip ?_ | refine AW.exit ?_ | refine fin_r ?_ | refine fin_n ?_ | refine AW.block ?_ | refine blockQ_n ?_ | refine blockQ_r ?_ | refine blockQ_e ?_ | refine blockQ_o rfl ?_)
        all_goals simp [Try.f72, hn]
      | true =>
        have hp := inR_iff.1 b2
        obtain ⟨p, hp'⟩ : ∃ p : Nat, l[i].par = (p : Int) := ⟨l[i].par.toNat, by omega⟩
        have hpl : p < l.length + 1 := by clear e1; omega
        have hpi : p ≤ i := by clear e1; omega
        have hga := gvn_at (l := l) (i := i) hpl
        have hst : Hd _ := gvn_step hl hp' hpl
        have hp2 : Hd (l[i].par = (p : Int)) := hp'
        have b2p : inR 0 (i : Int) (p : Int) = true := by rw [← hp']; exact b2
        clear hp
        by_cases hp0 : p = 0
        · exact (w_IVS_z l i hl h16'' hs e1 hsz hw'.out b2 p hp' hpl hpi hp0).mono fun e st h => by
            rcases h with ⟨rfl, hn, h⟩ | ⟨rfl, h⟩
            · exact ⟨.inr rfl, hn ▸ h⟩
            · exact h
        · exact (w_IVS_p l i hl h16'' hs e1 hsz hw'.out b2 p hp' hpl hpi hp0).mono fun e st h => by
            rcases h with ⟨rfl, hn, h⟩ | ⟨rfl, h⟩
            · exact ⟨.inr rfl, hn ▸ h⟩
            · exact h
    · have hn : ¬ i < l.length := by clear z1; omega
      have hii : i = l.length := by clear z1; omega
      subst hii
      clear z1 z2 z3 h16'
      repeat' (first | with_reducible refine OutOK.done ?_ | refine thenQ_n ?_ | refine thenQ_r ?_ | refine thenQ_e ?_ | refine AW.seq ?_ | refine AW.dreg tok mixed [12]  [(0, false), (1, false), (2, false), (3, false), (4, false), (5, false), (11, false), (6, false), (7, false), (8, false), (9, false), (10, false), (12, true), (13, false), (14, false)] (by decide +kernel) rfl (by simp [*]; rfl) ?_ | refine AW.dreg tok mixed [6]  [(0, false), (1, false), (5, false), (2, false), (3, false), (4, false), (6, true), (7, false), (8, false), (9, false)] (by decide +kernel) rfl (by simp [*]; rfl) ?_ | refine AW.dreg tok mixed [6]  [(0, false), (1, false), (5, false), (2, false), (3, false), (4, false), (6, true), (7, false)] (by decide +kernel) rfl (by simp [*]; rfl) ?_ | refine AW.reg tok (by simp [*]; rfl) ?_ | refine AW.ifB (by simp [*]; rfl) ?_ | refine IfG.t ?_ | refine IfG.f ?_ | (refine IfG.p (fun hg => ?_) (fun hg => ?_) <;> (try (have hg' := hg; simp at hg'))) | (refine IfG.n (fun hg => ?_) (fun hg => ?_) <;> (try (have hg' := hg; simp at hg'))) | (refine OutOK.gateP (fun hg => ?_) (fun hg => ?_) <;> (try (have hg' := hg; simp at hg'))) | (refine OutOK.gateN (fun hg => ?_) (fun hg => ?_) <;> (try (have hg' := hg; simp at hg'))) | (refine IfG.g (fun hg => ?_) (fun hg => ?_) <;> (try (have hg' := hg; simp at hg'))) | (refine OutOK.gate (fun hg => ?_) (fun hg => ?_) <;> (try (have hg' := hg; simp at hg'))) | refine OutOK.run (by simp [*]; rfl) ?_ | refine AW.ret ?_ | refine AW.skip ?_ | refine AW.exit ?_ | refine fin_r ?_ | refine fin_n ?_ | refine AW.block ?_ | refine blockQ_n ?_ | refine blockQ_r ?_ | refine blockQ_e ?_ | refine blockQ_o rfl ?_)
      refine AW.loopL (fun k => k ≤ l.length ∧ Hd (∀ (j : Nat) (hj : j < l.length), j < k → smOK l l[j] j = true)) (fun k => [(0, .c (.sl true 8 (smps l))), (3, .rf 14000 []), (112, .c (.sl true 8 (smps l))), (113, .c (.sc (.int .i64 (l.length : Int)))), (114, .c (.sc (.int .i64 (k : Int))))]) (fun _ => [(14000, .sv (.sl false 1 (ints (gvn l l.length))))]) (fun k => l.length - k) 0 ⟨Nat.zero_le _, fun j _ hj => by omega⟩ ⟨by simp, by simp, by simp⟩ ?_
      rintro k ⟨hk, hok⟩
      rcases Nat.lt_or_ge k l.length with hkl | hkl
      · have e1 : wrap64 ((k : Int) + 1) = (k : Int) + 1 := w64 (by omega) (by omega)
        obtain ⟨s1, s2⟩ := hs k hkl hkl
        have hpl : k + 1 < l.length + 1 := by omega
        have hga := gvn_at (l := l) (i := l.length) hpl
        have s1' : Hd _ := s1
        have hD : Hd (smD l l[k] = decide (l[k].giv = givI l ((k + 1 : Nat) : Int) l.length)) := by simp only [Hd, smD, s2]
        generalize hgi : givI l ((k + 1 : Nat) : Int) l.length = gi at *
        generalize hk1 : k + 1 = k1 at *
        have hk1' : Hd _ := hk1
        have hpl' : (k1 : Int) < (l.length : Int) + 1 := by clear e1; omega
        clear s1 hgi
        by_cases hG : gi = l[k].giv
        · have hk2 : smOK l l[k] k = true := by rw [s1'.out, hD.out, hG]; simp
          have hk2' : Hd _ := hk2
          clear hk1
          repeat' (first | with_reducible refine OutOK.done ?_ | refine thenQ_n ?_ | refine thenQ_r ?_ | refine thenQ_e ?_ | refine AW.seq ?_ | refine AW.dreg tok mixed [12]  [(0, false), (1, false), (2, false), (3, false), (4, false), (5, false), (11, false), (6, false), (7, false), (8, false), (9, false), (10, false), (12, true), (13, false), (14, false)] (by decide +kernel) rfl (by simp [*]; rfl) ?_ | refine AW.dreg tok mixed [6]  [(0, false), (1, false), (5, false), (2, false), (3, false), (4, false), (6, true), (7, false), (8, false), (9, false)] (by decide +kernel) rfl (by simp [*]; rfl) ?_ | refine AW.dreg tok mixed [6]  [(0, false), (1, false), (5, false), (2, false), (3, false), (4, false), (6, true), (7, false)] (by decide +kernel) rfl (by simp [*]; rfl) ?_ | refine AW.reg tok (by simp [*]; rfl) ?_ | refine AW.ifB (by simp [*]; rfl) ?_ | refine IfG.t ?_ | refine IfG.f ?_ | (refine IfG.p (fun hg => ?_) (fun hg => ?_) <;> (try (have hg' := hg; simp at hg'))) | (refine IfG.n (fun hg => ?_) (fun hg => ?_) <;> (try (have hg' := hg; simp at hg'))) | (refine OutOK.gateP (fun hg => ?_) (fun hg => ?_) <;> (try (have hg' := hg; simp at hg'))) | (refine OutOK.gateN (fun hg => ?_) (fun hg => ?_) <;> (try (have hg' := hg; simp at hg'))) | (refine IfG.g (fun hg => ?_) (fun hg => ?_) <;> (try (have hg' := hg; simp at hg'))) | (refine OutOK.gate (fun hg => ?_) (fun hg => ?_) <;> (try (have hg' := hg; simp at hg'))) | refine OutOK.run (by simp [*]; rfl) ?_ | refine AW.ret ?_ | refine AW.skip ?_ | refine AW.exit ?_ | refine fin_r ?_ | refine fin_n ?_ | refine AW.block ?_ | refine blockQ_n ?_ | refine blockQ_r ?_ | refine blockQ_e ?_ | refine blockQ_o rfl ?_)
          refine ⟨k1, ⟨by have := hk1'.out; clear e1; omega, fun j hj hjk => ?_⟩, ⟨by have := hk1'.out; simp; omega, by simp, by simp⟩, by have := hk1'.out; clear e1; omega⟩
          rcases Nat.lt_succ_iff_lt_or_eq.1 (by have := hk1'.out; clear e1; omega : j < k + 1) with h1 | h1
          · exact hok j hj h1
          · subst h1; exact hk2'.out
        · have hk2 : smOK l l[k] k = false := by rw [s1'.out, hD.out]; exact decide_eq_false (fun e => hG e.symm)
          have hn := goodS_no hkl hk2
          clear hk1
          repeat' (first | with_reducible refine OutOK.done ?_ | refine thenQ_n ?_ | refine thenQ_r ?_ | refine thenQ_e ?_ | refine AW.seq ?_ | refine AW.dreg tok mixed [12]  [(0, false), (1, false), (2, false), (3, false), (4, false), (5, false), (11, false), (6, false), (7, false), (8, false), (9, false), (10, false), (12, true), (13, false), (14, false)] (by decide +kernel) rfl (by simp [*]; rfl) ?_ | refine AW.dreg tok mixed [6]  [(0, false), (1, false), (5, false), (2, false), (3, false), (4, false), (6, true), (7, false), (8, false), (9, false)] (by decide +kernel) rfl (by simp [*]; rfl) ?_ | refine AW.dreg tok mixed [6]  [(0, false), (1, false), (5, false), (2, false), (3, false), (4, false), (6, true), (7, false)] (by decide +kernel) rfl (by simp [*]; rfl) ?_ | refine AW.reg tok (by simp [*]; rfl) ?_ | refine AW.ifB (by simp [*]; rfl) ?_ | refine IfG.t ?_ | refine IfG.f ?_ | (refine IfG.p (fun hg => ?_) (fun hg => ?_) <;> (try (have hg' := hg; simp at hg'))) | (refine IfG.n (fun hg => ?_) (fun hg => ?_) <;> (try (have hg' := hg; simp at hg'))) | (refine OutOK.gateP (fun hg => ?_) (fun hg => ?_) <;> (try (have hg' := hg; simp at hg'))) | (refine OutOK.gateN (fun hg => ?_) (fun hg => ?_) <;> (try (have hg' := hg; simp at hg'))) | (refine IfG.g (fun hg => ?_) (fun hg => ?_) <;> (try (have hg' := hg; simp at hg'))) | (refine OutOK.gate (fun hg => ?_) (fun hg => ?_) <;> (try (have hg' := hg; simp at hg'))) | refine OutOK.run (by simp [*]; rfl) ?_ | refine AW.ret ?_ | refine AW.skip ?_ | refine AW.exit ?_ | refine fin_r ?_ | refine fin_n ?_ | refine AW.block ?_ | refine blockQ_n ?_ | refine blockQ_r ?_ | refine blockQ_e ?_ | refine blockQ_o rfl ?_)
          simp [Try.f72, hn]
      · have hkk : k = l.length := by omega
        have hg := goodS_all h16 (fun j hj => hok j hj (by omega))
        subst hkk
        repeat' (first | with_reducible refine OutOK.done ?_ | refine thenQ_n ?_ | refine thenQ_r ?_ | refine thenQ_e ?_ | refine AW.seq ?_ | refine AW.dreg tok mixed [12]  [(0, false), (1, false), (2, false), (3, false), (4, false), (5, false), (11, false), (6, false), (7, false), (8, false), (9, false), (10, false), (12, true), (13, false), (14, false)] (by decide +kernel) rfl (by simp [*]; rfl) ?_ | refine AW.dreg tok mixed [6]  [(0, false), (1, false), (5, false), (2, false), (3, false), (4, false), (6, true), (7, false), (8, false), (9, false)] (by decide +kernel) rfl (by simp [*]; rfl) ?_ | refine AW.dreg tok mixed [6]  [(0, false), (1, false), (5, false), (2, false), (3, false), (4, false), (6, true), (7, false)] (by decide +kernel) rfl (by simp [*]; rfl) ?_ | refine AW.reg tok (by simp [*]; rfl) ?_ | refine AW.ifB (by simp [*]; rfl) ?_ | refine IfG.t ?_ | refine IfG.f ?_ | (refine IfG.p (fun hg => ?_) (fun hg => ?_) <;> (try (have hg' := hg; simp at hg'))) | (refine IfG.n (fun hg => ?_) (fun hg => ?_) <;> (try (have hg' := hg; simp at hg'))) | (refine OutOK.gateP (fun hg => ?_) (fun hg => ?_) <;> (try (have hg' := hg; simp at hg'))) | (refine OutOK.gateN (fun hg => ?_) (fun hg => ?_) <;> (try (have hg' := hg; simp at hg'))) | (refine IfG.g (fun hg => ?_) (fun hg => ?_) <;> (try (have hg' := hg; simp at hg'))) | (refine OutOK.gate (fun hg => ?_) (fun hg => ?_) <;> (try (have hg' := hg; simp at hg'))) | refine OutOK.run (by simp [*]; rfl) ?_ | refine AW.ret ?_ | refine AW.skip ?_ | refine AW.exit ?_ | refine fin_r ?_ | refine fin_n ?_ | refine AW.block ?_ | refine blockQ_n ?_ | refine blockQ_r ?_ | refine blockQ_e ?_ | refine blockQ_o rfl ?_)
        simp [Try.f72, hg]
end Go.Proofs.Ytodombkmnnggeaa.EngS


set_option linter.unusedSimpArgs false
set_option linter.unusedVariables false
set_option maxHeartbeats 4000000
set_option maxRecDepth 100000
namespace Go.Proofs.Ytodombkmnnggeaa.EngS
open Go Go.Proofs Go.Eng Go.RowKit
attribute [local irreducible] Go.RowKit.wrap64
abbrev stpD (kd sm am : Int) (ho : ByteArray) : D := .g [.sc (.int .i64 kd), .sc (.int .i64 sm), .sc (.int .i64 am), .sc (.string ho)]
def stepR (l : List Smp) (kd sm am : Int) (ho : ByteArray) : Option (List Smp) :=
  if kd = 1 then some (l ++ [⟨(l.length + 1 : Nat), 0, sm, am, am, 0, 0, ho⟩])
  else if inR 1 l.length sm = true then
    let i := (sm - 1).toNat
    let x := l[i]?.getD default
    if kd = 2 ∧ am = 0 then some (l.set i ⟨x.id, x.par, x.ctx, x.tak, x.lef, x.usd, x.giv, ho⟩)
    else if kd = 3 ∧ inR 1 x.lef am = true then some (l.set i ⟨x.id, x.par, x.ctx, x.tak, wrap64 (x.lef - am), x.usd, wrap64 (x.giv + am), x.hol⟩ ++ [⟨(l.length + 1 : Nat), x.id, x.ctx, am, am, 0, 0, ho⟩])
    else if kd = 4 ∧ inR 1 x.lef am = true ∧ ho.toList = [] then some (l.set i ⟨x.id, x.par, x.ctx, x.tak, wrap64 (x.lef - am), wrap64 (x.usd + am), x.giv, x.hol⟩)
    else none
  else none
def stepB (l : List Smp) (kd sm am : Int) (ho : ByteArray) : Bool := match stepR l kd sm am ho with | some m => goodS m | none => false
def stepL (l : List Smp) (kd sm am : Int) (ho : ByteArray) : List Smp := if stepB l kd sm am ho = true then (stepR l kd sm am ho).getD [] else []
theorem step_some {l kd sm am ho m} (h : stepR l kd sm am ho = some m) : stepB l kd sm am ho = goodS m ∧ (goodS m = true → stepL l kd sm am ho = m) := by
  have : stepB l kd sm am ho = goodS m := by simp [stepB, h]
  exact ⟨this, fun hg => by simp [stepL, this, hg, h]⟩
theorem step_none {l kd sm am ho} (h : stepR l kd sm am ho = none) : stepB l kd sm am ho = false := by simp [stepB, h]
theorem w64_in (x : Int) : -9223372036854775808 ≤ wrap64 x ∧ wrap64 x < 9223372036854775808 := by unfold Go.RowKit.wrap64; omega
theorem W_app {l : List Smp} {x : Smp} (h : ∀ s ∈ l, SmpW s) (hx : SmpW x) : ∀ s ∈ l ++ [x], SmpW s := by
  intro s hs
  rw [List.mem_append] at hs
  rcases hs with hs | hs
  · exact h s hs
  · simp at hs; subst hs; exact hx
theorem W_set {l : List Smp} {x : Smp} {k : Nat} (h : ∀ s ∈ l, SmpW s) (hx : SmpW x) : ∀ s ∈ l.set k x, SmpW s := by
  intro s hs
  rcases List.mem_or_eq_of_mem_set hs with hs | hs
  · exact h s hs
  · subst hs; exact hx
theorem s_l20_1 (l : List Smp) (kd sm am : Int) (ho : ByteArray) (h : l.length ≤ 1000) (hh : ∀ s ∈ l, SmpW s) (hho : ho.size ≤ 9223372036854775807) (h1 : kd = 1) : ACallX Try.prog 69 [.v (.sl true 8 (smps l)), stpD kd sm am ho] (fun x : List Smp => x.length ≤ l.length + 1 ∧ (∀ s ∈ x, SmpW s) ∧ (stepB l kd sm am ho = true → x = stepL l kd sm am ho)) (fun _ => [.x, .x]) (fun x => [.v (.sl false 8 (smps x)), boo (stepB l kd sm am ho)]) := by
  obtain ⟨n1, hn1⟩ : ∃ n1, n1 = l.length + 1 := ⟨_, rfl⟩
  have e1 : wrap64 ((l.length : Int) + 1) = (n1 : Int) := by rw [w64 (by omega) (by omega)]; omega
  have b1 : l.length * 72 ≤ 140737488355328 := by omega
  have b2 : l.length ≤ 4611686018427387904 := by omega
  have b3 : (l.length + 1) * 72 ≤ 140737488355328 := by omega
  have b4 : l.length + 1 ≤ 4611686018427387904 := by omega
  have hh' : Hd (∀ s ∈ l, SmpW s) := hh
  have hn1' : Hd _ := hn1
  clear hn1
  subst h1
  obtain ⟨hb, hl⟩ := step_some (show stepR l 1 sm am ho = some (l ++ [⟨n1, 0, sm, am, am, 0, 0, ho⟩]) by simp [stepR, hn1'.out])
  have hmw : ∀ s ∈ l ++ [(⟨n1, 0, sm, am, am, 0, 0, ho⟩ : Smp)], SmpW s := W_app hh ⟨hho, by simp, by simp⟩
  have cv := c_spec_l20Good _ (by simp; omega) hmw
  rw [hb]
  generalize goodS (l ++ [(⟨n1, 0, sm, am, am, 0, 0, ho⟩ : Smp)]) = gb at *
  replace hl : Hd _ := hl
  replace hmw : Hd _ := hmw
  clear hb hh
  refine ACallX.of (N := 135) tok Try.func69 rfl rfl rfl (by simp) ?_
  repeat' (first | with_reducible refine OutOK.done ?_ | refine thenQ_n ?_ | refine thenQ_r ?_ | refine thenQ_e ?_ | refine AW.seq ?_ | refine AW.reg tok (by simp [*]; rfl) ?_ | refine AW.ifB (by simp [*]; rfl) ?_ | refine IfG.t ?_ | refine IfG.f ?_ | (refine IfG.p (fun hg => ?_) (fun hg => ?_) <;> (try (have hg' := hg; simp at hg'))) | (refine IfG.n (fun hg => ?_) (fun hg => ?_) <;> (try (have hg' := hg; simp at hg'))) | (refine OutOK.gateP (fun hg => ?_) (fun hg => ?_) <;> (try (have hg' := hg; simp at hg'))) | (refine OutOK.gateN (fun hg => ?_) (fun hg => ?_) <;> (try (have hg' := hg; simp at hg'))) | (refine IfG.g (fun hg => ?_) (fun hg => ?_) <;> (try (have hg' := hg; simp at hg'))) | (refine OutOK.gate (fun hg => ?_) (fun hg => ?_) <;> (try (have hg' := hg; simp at hg'))) | (refine OutOK.callF [] (by simp [*]; rfl) (by simp [*]; rfl) (by simp [*]; rfl) hb95 (by apply c_spec_l1In <;> first | assumption | exact Hd.out (by assumption) | ((try (clear e0)); (try (clear e1)); (try (clear e2)); (try (clear e3)); (try (clear e4)); (try (clear e5)); (try (clear e6)); (try (clear e7)); (try (clear e8)); (try (clear e9)); (try (clear e10)); (try (clear e11)); omega)) ⟨by simp [*], by simp [*], by simp [*], by simp [*], by simp [*]⟩ (by simp [*]) (by simp [*]; rfl) ?_) | (refine OutOK.callF [] (by simp [*]; rfl) (by simp [*]; rfl) (by simp [*]; rfl) hb70 (by apply cv <;> first | assumption | exact Hd.out (by assumption) | ((try (clear e0)); (try (clear e1)); (try (clear e2)); (try (clear e3)); (try (clear e4)); (try (clear e5)); (try (clear e6)); (try (clear e7)); (try (clear e8)); (try (clear e9)); (try (clear e10)); (try (clear e11)); omega)) ⟨by simp [*], by simp [*], by simp [*], by simp [*], by simp [*]⟩ (by simp [*]) (by simp [*]; rfl) ?_) | refine OutOK.run (by simp [*]; rfl) ?_ | refine AW.ret ?_ | refine AW.skip ?_ | refine AW.exit ?_ | refine fin_r ?_ | refine fin_n ?_ | refine AW.block ?_ | refine blockQ_n ?_ | refine blockQ_r ?_ | refine blockQ_e ?_ | refine blockQ_o rfl ?_)
  exact ⟨l ++ [⟨n1, 0, sm, am, am, 0, 0, ho⟩], ⟨by simp, hmw.out, fun e => (hl.out e).symm⟩, by simp [Try.f69]⟩
theorem s_l20_R (l : List Smp) (kd sm am : Int) (ho : ByteArray) (h : l.length ≤ 1000) (hh : ∀ s ∈ l, SmpW s) (hho : ho.size ≤ 9223372036854775807) (h1 : ¬ kd = 1) (hR : inR 1 l.length sm = false) : ACallX Try.prog 69 [.v (.sl true 8 (smps l)), stpD kd sm am ho] (fun x : List Smp => x.length ≤ l.length + 1 ∧ (∀ s ∈ x, SmpW s) ∧ (stepB l kd sm am ho = true → x = stepL l kd sm am ho)) (fun _ => [.x, .x]) (fun x => [.v (.sl false 8 (smps x)), boo (stepB l kd sm am ho)]) := by
  obtain ⟨n1, hn1⟩ : ∃ n1, n1 = l.length + 1 := ⟨_, rfl⟩
  have e1 : wrap64 ((l.length : Int) + 1) = (n1 : Int) := by rw [w64 (by omega) (by omega)]; omega
  have b1 : l.length * 72 ≤ 140737488355328 := by omega
  have b2 : l.length ≤ 4611686018427387904 := by omega
  have b3 : (l.length + 1) * 72 ≤ 140737488355328 := by omega
  have b4 : l.length + 1 ≤ 4611686018427387904 := by omega
  have hh' : Hd (∀ s ∈ l, SmpW s) := hh
  have hn1' : Hd _ := hn1
  clear hn1
  have hb := step_none (show stepR l kd sm am ho = none by simp [stepR, h1, hR])
  rw [hb]
  clear hb hh
  refine ACallX.of (N := 135) tok Try.func69 rfl rfl rfl (by simp) ?_
  repeat' (first | with_reducible refine OutOK.done ?_ | refine thenQ_n ?_ | refine thenQ_r ?_ | refine thenQ_e ?_ | refine AW.seq ?_ | refine AW.reg tok (by simp [*]; rfl) ?_ | refine AW.ifB (by simp [*]; rfl) ?_ | refine IfG.t ?_ | refine IfG.f ?_ | (refine IfG.p (fun hg => ?_) (fun hg => ?_) <;> (try (have hg' := hg; simp at hg'))) | (refine IfG.n (fun hg => ?_) (fun hg => ?_) <;> (try (have hg' := hg; simp at hg'))) | (refine OutOK.gateP (fun hg => ?_) (fun hg => ?_) <;> (try (have hg' := hg; simp at hg'))) | (refine OutOK.gateN (fun hg => ?_) (fun hg => ?_) <;> (try (have hg' := hg; simp at hg'))) | (refine IfG.g (fun hg => ?_) (fun hg => ?_) <;> (try (have hg' := hg; simp at hg'))) | (refine OutOK.gate (fun hg => ?_) (fun hg => ?_) <;> (try (have hg' := hg; simp at hg'))) | (refine OutOK.callF [] (by simp [*]; rfl) (by simp [*]; rfl) (by simp [*]; rfl) hb70 (by apply c_spec_l20Good <;> first | assumption | exact Hd.out (by assumption) | ((try (clear e0)); (try (clear e1)); (try (clear e2)); (try (clear e3)); (try (clear e4)); (try (clear e5)); (try (clear e6)); (try (clear e7)); (try (clear e8)); (try (clear e9)); (try (clear e10)); (try (clear e11)); omega)) ⟨by simp [*], by simp [*], by simp [*], by simp [*], by simp [*]⟩ (by simp [*]) (by simp [*]; rfl) ?_) | (refine OutOK.callF [] (by simp [*]; rfl) (by simp [*]; rfl) (by simp [*]; rfl) hb95 (by apply c_spec_l1In <;> first | assumption | exact Hd.out (by assumption) | ((try (clear e0)); (try (clear e1)); (try (clear e2)); (try (clear e3)); (try (clear e4)); (try (clear e5)); (try (clear e6)); (try (clear e7)); (try (clear e8)); (try (clear e9)); (try (clear e10)); (try (clear e11)); omega)) ⟨by simp [*], by simp [*], by simp [*], by simp [*], by simp [*]⟩ (by simp [*]) (by simp [*]; rfl) ?_) | refine OutOK.run (by simp [*]; rfl) ?_ | refine AW.ret ?_ | refine AW.skip ?_ | refine AW.exit ?_ | refine fin_r ?_ | refine fin_n ?_ | refine AW.block ?_ | refine blockQ_n ?_ | refine blockQ_r ?_ | refine blockQ_e ?_ | refine blockQ_o rfl ?_)
  exact ⟨l, ⟨by simp, hh'.out, fun e => by simp at e⟩, by simp [Try.f69]⟩
theorem s_l20_2 (l : List Smp) (kd sm am : Int) (ho : ByteArray) (h : l.length ≤ 1000) (hh : ∀ s ∈ l, SmpW s) (hho : ho.size ≤ 9223372036854775807) (h1 : ¬ kd = 1) (hR : inR 1 l.length sm = true) (h2 : kd = 2 ∧ am = 0) : ACallX Try.prog 69 [.v (.sl true 8 (smps l)), stpD kd sm am ho] (fun x : List Smp => x.length ≤ l.length + 1 ∧ (∀ s ∈ x, SmpW s) ∧ (stepB l kd sm am ho = true → x = stepL l kd sm am ho)) (fun _ => [.x, .x]) (fun x => [.v (.sl false 8 (smps x)), boo (stepB l kd sm am ho)]) := by
  obtain ⟨n1, hn1⟩ : ∃ n1, n1 = l.length + 1 := ⟨_, rfl⟩
  have e1 : wrap64 ((l.length : Int) + 1) = (n1 : Int) := by rw [w64 (by omega) (by omega)]; omega
  have b1 : l.length * 72 ≤ 140737488355328 := by omega
  have b2 : l.length ≤ 4611686018427387904 := by omega
  have b3 : (l.length + 1) * 72 ≤ 140737488355328 := by omega
  have b4 : l.length + 1 ≤ 4611686018427387904 := by omega
  have hh' : Hd (∀ s ∈ l, SmpW s) := hh
  have hn1' : Hd _ := hn1
  clear hn1
  have hr := inR_iff.1 hR
  obtain ⟨k, hk⟩ : ∃ k : Nat, sm = ((k + 1 : Nat) : Int) := ⟨(sm - 1).toNat, by ((try (clear e0)); (try (clear e1)); (try (clear e2)); (try (clear e3)); (try (clear e4)); (try (clear e5)); (try (clear e6)); (try (clear e7)); (try (clear e8)); (try (clear e9)); (try (clear e10)); (try (clear e11)); omega)⟩
  have e2 : wrap64 (sm - 1) = (k : Int) := by rw [w64 (by ((try (clear e0)); (try (clear e1)); (try (clear e2)); (try (clear e3)); (try (clear e4)); (try (clear e5)); (try (clear e6)); (try (clear e7)); (try (clear e8)); (try (clear e9)); (try (clear e10)); (try (clear e11)); omega)) (by ((try (clear e0)); (try (clear e1)); (try (clear e2)); (try (clear e3)); (try (clear e4)); (try (clear e5)); (try (clear e6)); (try (clear e7)); (try (clear e8)); (try (clear e9)); (try (clear e10)); (try (clear e11)); omega))]; ((try (clear e0)); (try (clear e1)); (try (clear e2)); (try (clear e3)); (try (clear e4)); (try (clear e5)); (try (clear e6)); (try (clear e7)); (try (clear e8)); (try (clear e9)); (try (clear e10)); (try (clear e11)); omega)
  have hkl : k < l.length := by ((try (clear e0)); (try (clear e1)); (try (clear e2)); (try (clear e3)); (try (clear e4)); (try (clear e5)); (try (clear e6)); (try (clear e7)); (try (clear e8)); (try (clear e9)); (try (clear e10)); (try (clear e11)); omega)
  have hi : (sm - 1).toNat = k := by ((try (clear e0)); (try (clear e1)); (try (clear e2)); (try (clear e3)); (try (clear e4)); (try (clear e5)); (try (clear e6)); (try (clear e7)); (try (clear e8)); (try (clear e9)); (try (clear e10)); (try (clear e11)); omega)
  have hx : l[k]? = some l[k] := List.getElem?_eq_getElem hkl
  have hxw := hh l[k] (List.getElem_mem hkl)
  have hsR : Hd (stepR l kd sm am ho = (if kd = 2 ∧ am = 0 then some (l.set k ⟨l[k].id, l[k].par, l[k].ctx, l[k].tak, l[k].lef, l[k].usd, l[k].giv, ho⟩)
    else if kd = 3 ∧ inR 1 l[k].lef am = true then some (l.set k ⟨l[k].id, l[k].par, l[k].ctx, l[k].tak, wrap64 (l[k].lef - am), l[k].usd, wrap64 (l[k].giv + am), l[k].hol⟩ ++ [⟨n1, l[k].id, l[k].ctx, am, am, 0, 0, ho⟩])
    else if kd = 4 ∧ inR 1 l[k].lef am = true ∧ ho.toList = [] then some (l.set k ⟨l[k].id, l[k].par, l[k].ctx, l[k].tak, wrap64 (l[k].lef - am), wrap64 (l[k].usd + am), l[k].giv, l[k].hol⟩)
    else none)) := by
    simp only [Hd, stepR, if_neg h1, hR, if_true, hi, hx, Option.getD_some, ← hn1'.out]
  have hk' : Hd _ := hk
  clear hk hi hx hr
  obtain ⟨hb, hl⟩ := step_some (hsR.out.trans (by rw [if_pos h2]))
  obtain ⟨rfl, rfl⟩ := h2
  have hmw := W_set (x := ⟨l[k].id, l[k].par, l[k].ctx, l[k].tak, l[k].lef, l[k].usd, l[k].giv, ho⟩) (k := k) hh ⟨hho, hxw.2⟩
  have cv := c_spec_l20Good _ (by simp; omega) hmw
  rw [hb]
  generalize goodS (l.set k ⟨l[k].id, l[k].par, l[k].ctx, l[k].tak, l[k].lef, l[k].usd, l[k].giv, ho⟩) = gb at *
  replace hl : Hd _ := hl
  replace hmw : Hd _ := hmw
  clear hb hh hxw
  refine ACallX.of (N := 135) tok Try.func69 rfl rfl rfl (by simp) ?_
  repeat' (first | with_reducible refine OutOK.done ?_ | refine thenQ_n ?_ | refine thenQ_r ?_ | refine thenQ_e ?_ | refine AW.seq ?_ | refine AW.reg tok (by simp [*]; rfl) ?_ | refine AW.ifB (by simp [*]; rfl) ?_ | refine IfG.t ?_ | refine IfG.f ?_ | (refine IfG.p (fun hg => ?_) (fun hg => ?_) <;> (try (have hg' := hg; simp at hg'))) | (refine IfG.n (fun hg => ?_) (fun hg => ?_) <;> (try (have hg' := hg; simp at hg'))) | (refine OutOK.gateP (fun hg => ?_) (fun hg => ?_) <;> (try (have hg' := hg; simp at hg'))) | (refine OutOK.gateN (fun hg => ?_) (fun hg => ?_) <;> (try (have hg' := hg; simp at hg'))) | (refine IfG.g (fun hg => ?_) (fun hg => ?_) <;> (try (have hg' := hg; simp at hg'))) | (refine OutOK.gate (fun hg => ?_) (fun hg => ?_) <;> (try (have hg' := hg; simp at hg'))) | (refine OutOK.callF [] (by simp [*]; rfl) (by simp [*]; rfl) (by simp [*]; rfl) hb95 (by apply c_spec_l1In <;> first | assumption | exact Hd.out (by assumption) | ((try (clear e0)); (try (clear e1)); (try (clear e2)); (try (clear e3)); (try (clear e4)); (try (clear e5)); (try (clear e6)); (try (clear e7)); (try (clear e8)); (try (clear e9)); (try (clear e10)); (try (clear e11)); omega)) ⟨by simp [*], by simp [*], by simp [*], by simp [*], by simp [*]⟩ (by simp [*]) (by simp [*]; rfl) ?_) | (refine OutOK.callF [] (by simp [*]; rfl) (by simp [*]; rfl) (by simp [*]; rfl) hb70 (by apply cv <;> first | assumption | exact Hd.out (by assumption) | ((try (clear e0)); (try (clear e1)); (try (clear e2)); (try (clear e3)); (try (clear e4)); (try (clear e5)); (try (clear e6)); (try (clear e7)); (try (clear e8)); (try (clear e9)); (try (clear e10)); (try (clear e11)); omega)) ⟨by simp [*], by simp [*], by simp [*], by simp [*], by simp [*]⟩ (by simp [*]) (by simp [*]; rfl) ?_) | refine OutOK.run (by simp [*]; rfl) ?_ | refine AW.ret ?_ | refine AW.skip ?_ | refine AW.exit ?_ | refine fin_r ?_ | refine fin_n ?_ | refine AW.block ?_ | refine blockQ_n ?_ | refine blockQ_r ?_ | refine blockQ_e ?_ | refine blockQ_o rfl ?_)
  exact ⟨l.set k ⟨l[k].id, l[k].par, l[k].ctx, l[k].tak, l[k].lef, l[k].usd, l[k].giv, ho⟩, ⟨by simp, hmw.out, fun e => (hl.out e).symm⟩, by simp [Try.f69]⟩
theorem s_l20_3 (l : List Smp) (kd sm am : Int) (ho : ByteArray) (h : l.length ≤ 1000) (hh : ∀ s ∈ l, SmpW s) (hho : ho.size ≤ 9223372036854775807) (h1 : ¬ kd = 1) (hR : inR 1 l.length sm = true) (h2 : ¬ (kd = 2 ∧ am = 0)) (h3' : ∀ (k : Nat) (hk : k < l.length), sm = ((k + 1 : Nat) : Int) → kd = 3 ∧ inR 1 l[k].lef am = true) : ACallX Try.prog 69 [.v (.sl true 8 (smps l)), stpD kd sm am ho] (fun x : List Smp => x.length ≤ l.length + 1 ∧ (∀ s ∈ x, SmpW s) ∧ (stepB l kd sm am ho = true → x = stepL l kd sm am ho)) (fun _ => [.x, .x]) (fun x => [.v (.sl false 8 (smps x)), boo (stepB l kd sm am ho)]) := by
  obtain ⟨n1, hn1⟩ : ∃ n1, n1 = l.length + 1 := ⟨_, rfl⟩
  have e1 : wrap64 ((l.length : Int) + 1) = (n1 : Int) := by rw [w64 (by omega) (by omega)]; omega
  have b1 : l.length * 72 ≤ 140737488355328 := by omega
  have b2 : l.length ≤ 4611686018427387904 := by omega
  have b3 : (l.length + 1) * 72 ≤ 140737488355328 := by omega
  have b4 : l.length + 1 ≤ 4611686018427387904 := by omega
  have hh' : Hd (∀ s ∈ l, SmpW s) := hh
  have hn1' : Hd _ := hn1
  clear hn1
  have hr := inR_iff.1 hR
  obtain ⟨k, hk⟩ : ∃ k : Nat, sm = ((k + 1 : Nat) : Int) := ⟨(sm - 1).toNat, by ((try (clear e0)); (try (clear e1)); (try (clear e2)); (try (clear e3)); (try (clear e4)); (try (clear e5)); (try (clear e6)); (try (clear e7)); (try (clear e8)); (try (clear e9)); (try (clear e10)); (try (clear e11)); omega)⟩
  have e2 : wrap64 (sm - 1) = (k : Int) := by rw [w64 (by ((try (clear e0)); (try (clear e1)); (try (clear e2)); (try (clear e3)); (try (clear e4)); (try (clear e5)); (try (clear e6)); (try (clear e7)); (try (clear e8)); (try (clear e9)); (try (clear e10)); (try (clear e11)); omega)) (by ((try (clear e0)); (try (clear e1)); (try (clear e2)); (try (clear e3)); (try (clear e4)); (try (clear e5)); (try (clear e6)); (try (clear e7)); (try (clear e8)); (try (clear e9)); (try (clear e10)); (try (clear e11)); omega))]; ((try (clear e0)); (try (clear e1)); (try (clear e2)); (try (clear e3)); (try (clear e4)); (try (clear e5)); (try (clear e6)); (try (clear e7)); (try (clear e8)); (try (clear e9)); (try (clear e10)); (try (clear e11)); omega)
  have hkl : k < l.length := by ((try (clear e0)); (try (clear e1)); (try (clear e2)); (try (clear e3)); (try (clear e4)); (try (clear e5)); (try (clear e6)); (try (clear e7)); (try (clear e8)); (try (clear e9)); (try (clear e10)); (try (clear e11)); omega)
  have hi : (sm - 1).toNat = k := by ((try (clear e0)); (try (clear e1)); (try (clear e2)); (try (clear e3)); (try (clear e4)); (try (clear e5)); (try (clear e6)); (try (clear e7)); (try (clear e8)); (try (clear e9)); (try (clear e10)); (try (clear e11)); omega)
  have hx : l[k]? = some l[k] := List.getElem?_eq_getElem hkl
  have hxw := hh l[k] (List.getElem_mem hkl)
  have hsR : Hd (stepR l kd sm am ho = (if kd = 2 ∧ am = 0 then some (l.set k ⟨l[k].id, l[k].par, l[k].ctx, l[k].tak, l[k].lef, l[k].usd, l[k].giv, ho⟩)
    else if kd = 3 ∧ inR 1 l[k].lef am = true then some (l.set k ⟨l[k].id, l[k].par, l[k].ctx, l[k].tak, wrap64 (l[k].lef - am), l[k].usd, wrap64 (l[k].giv + am), l[k].hol⟩ ++ [⟨n1, l[k].id, l[k].ctx, am, am, 0, 0, ho⟩])
    else if kd = 4 ∧ inR 1 l[k].lef am = true ∧ ho.toList = [] then some (l.set k ⟨l[k].id, l[k].par, l[k].ctx, l[k].tak, wrap64 (l[k].lef - am), wrap64 (l[k].usd + am), l[k].giv, l[k].hol⟩)
    else none)) := by
    simp only [Hd, stepR, if_neg h1, hR, if_true, hi, hx, Option.getD_some, ← hn1'.out]
  have hk' : Hd _ := hk
  have h3 := h3' k hkl hk
  clear h3'
  clear hk hi hx hr
  obtain ⟨hb, hl⟩ := step_some (hsR.out.trans (by rw [if_neg h2, if_pos h3]))
  obtain ⟨rfl, h3⟩ := h3
  have hmw := W_app (x := ⟨n1, l[k].id, l[k].ctx, am, am, 0, 0, ho⟩) (W_set (x := ⟨l[k].id, l[k].par, l[k].ctx, l[k].tak, wrap64 (l[k].lef - am), l[k].usd, wrap64 (l[k].giv + am), l[k].hol⟩) (k := k) hh ⟨hxw.1, w64_in _⟩) ⟨hho, by simp, by simp⟩
  have cv := c_spec_l20Good _ (by simp; omega) hmw
  rw [hb]
  generalize goodS (l.set k ⟨l[k].id, l[k].par, l[k].ctx, l[k].tak, wrap64 (l[k].lef - am), l[k].usd, wrap64 (l[k].giv + am), l[k].hol⟩ ++ [⟨n1, l[k].id, l[k].ctx, am, am, 0, 0, ho⟩]) = gb at *
  replace hl : Hd _ := hl
  replace hmw : Hd _ := hmw
  have hkl2 : k < l.length + 1 := by ((try (clear e0)); (try (clear e1)); (try (clear e2)); (try (clear e3)); (try (clear e4)); (try (clear e5)); (try (clear e6)); (try (clear e7)); (try (clear e8)); (try (clear e9)); (try (clear e10)); (try (clear e11)); omega)
  have hkl3 : (k : Int) < (l.length : Int) + 1 := by ((try (clear e0)); (try (clear e1)); (try (clear e2)); (try (clear e3)); (try (clear e4)); (try (clear e5)); (try (clear e6)); (try (clear e7)); (try (clear e8)); (try (clear e9)); (try (clear e10)); (try (clear e11)); omega)
  clear hb hh hxw h2 h1 hsR
  refine ACallX.of (N := 135) tok Try.func69 rfl rfl rfl (by simp) ?_
  repeat' (first | with_reducible refine OutOK.done ?_ | refine thenQ_n ?_ | refine thenQ_r ?_ | refine thenQ_e ?_ | refine AW.seq ?_ | refine AW.reg tok (by simp (maxSteps := 3000000) [*]; rfl) ?_ | refine AW.ifB (by simp (maxSteps := 3000000) [*]; rfl) ?_ | refine IfG.t ?_ | refine IfG.f ?_ | (refine IfG.p (fun hg => ?_) (fun hg => ?_) <;> (try (have hg' := hg; simp at hg'))) | (refine IfG.n (fun hg => ?_) (fun hg => ?_) <;> (try (have hg' := hg; simp at hg'))) | (refine OutOK.gateP (fun hg => ?_) (fun hg => ?_) <;> (try (have hg' := hg; simp at hg'))) | (refine OutOK.gateN (fun hg => ?_) (fun hg => ?_) <;> (try (have hg' := hg; simp at hg'))) | (refine IfG.g (fun hg => ?_) (fun hg => ?_) <;> (try (have hg' := hg; simp at hg'))) | (refine OutOK.gate (fun hg => ?_) (fun hg => ?_) <;> (try (have hg' := hg; simp at hg'))) | (refine OutOK.callF [] (by simp (maxSteps := 3000000) [*]; rfl) (by simp (maxSteps := 3000000) [*]; rfl) (by simp (maxSteps := 3000000) [*]; rfl) hb95 (by apply c_spec_l1In <;> first | assumption | exact Hd.out (by assumption) | ((try (clear e0)); (try (clear e1)); (try (clear e2)); (try (clear e3)); (try (clear e4)); (try (clear e5)); (try (clear e6)); (try (clear e7)); (try (clear e8)); (try (clear e9)); (try (clear e10)); (try (clear e11)); omega)) ⟨by simp (maxSteps := 3000000) [*], by simp (maxSteps := 3000000) [*], by simp (maxSteps := 3000000) [*], by simp (maxSteps := 3000000) [*], by simp (maxSteps := 3000000) [*]⟩ (by simp (maxSteps := 3000000) [*]) (by simp (maxSteps := 3000000) [*]; rfl) ?_) | (refine OutOK.callF [] (by simp (maxSteps := 3000000) [*]; rfl) (by simp (maxSteps := 3000000) [*]; rfl) (by simp (maxSteps := 3000000) [*]; rfl) hb70 (by apply cv <;> first | assumption | exact Hd.out (by assumption) | ((try (clear e0)); (try (clear e1)); (try (clear e2)); (try (clear e3)); (try (clear e4)); (try (clear e5)); (try (clear e6)); (try (clear e7)); (try (clear e8)); (try (clear e9)); (try (clear e10)); (try (clear e11)); omega)) ⟨by simp (maxSteps := 3000000) [*], by simp (maxSteps := 3000000) [*], by simp (maxSteps := 3000000) [*], by simp (maxSteps := 3000000) [*], by simp (maxSteps := 3000000) [*]⟩ (by simp (maxSteps := 3000000) [*]) (by simp (maxSteps := 3000000) [*]; rfl) ?_) | refine OutOK.run (by simp (maxSteps := 3000000) [*]; rfl) ?_ | refine AW.ret ?_ | refine AW.skip ?_ | refine AW.exit ?_ | refine fin_r ?_ | refine fin_n ?_ | refine AW.block ?_ | refine blockQ_n ?_ | refine blockQ_r ?_ | refine blockQ_e ?_ | refine blockQ_o rfl ?_)
  exact ⟨l.set k ⟨l[k].id, l[k].par, l[k].ctx, l[k].tak, wrap64 (l[k].lef - am), l[k].usd, wrap64 (l[k].giv + am), l[k].hol⟩ ++ [⟨n1, l[k].id, l[k].ctx, am, am, 0, 0, ho⟩], ⟨by simp, hmw.out, fun e => (hl.out e).symm⟩, by simp [Try.f69]⟩
theorem s_l20_4 (l : List Smp) (kd sm am : Int) (ho : ByteArray) (h : l.length ≤ 1000) (hh : ∀ s ∈ l, SmpW s) (hho : ho.size ≤ 9223372036854775807) (h1 : ¬ kd = 1) (hR : inR 1 l.length sm = true) (h2 : ¬ (kd = 2 ∧ am = 0)) (h3' : ∀ (k : Nat) (hk : k < l.length), sm = ((k + 1 : Nat) : Int) → ¬ (kd = 3 ∧ inR 1 l[k].lef am = true)) (h4' : ∀ (k : Nat) (hk : k < l.length), sm = ((k + 1 : Nat) : Int) → kd = 4 ∧ inR 1 l[k].lef am = true ∧ ho.toList = []) : ACallX Try.prog 69 [.v (.sl true 8 (smps l)), stpD kd sm am ho] (fun x : List Smp => x.length ≤ l.length + 1 ∧ (∀ s ∈ x, SmpW s) ∧ (stepB l kd sm am ho = true → x = stepL l kd sm am ho)) (fun _ => [.x, .x]) (fun x => [.v (.sl false 8 (smps x)), boo (stepB l kd sm am ho)]) := by
  obtain ⟨n1, hn1⟩ : ∃ n1, n1 = l.length + 1 := ⟨_, rfl⟩
  have e1 : wrap64 ((l.length : Int) + 1) = (n1 : Int) := by rw [w64 (by omega) (by omega)]; omega
  have b1 : l.length * 72 ≤ 140737488355328 := by omega
  have b2 : l.length ≤ 4611686018427387904 := by omega
  have b3 : (l.length + 1) * 72 ≤ 140737488355328 := by omega
  have b4 : l.length + 1 ≤ 4611686018427387904 := by omega
  have hh' : Hd (∀ s ∈ l, SmpW s) := hh
  have hn1' : Hd _ := hn1
  clear hn1
  have hr := inR_iff.1 hR
  obtain ⟨k, hk⟩ : ∃ k : Nat, sm = ((k + 1 : Nat) : Int) := ⟨(sm - 1).toNat, by ((try (clear e0)); (try (clear e1)); (try (clear e2)); (try (clear e3)); (try (clear e4)); (try (clear e5)); (try (clear e6)); (try (clear e7)); (try (clear e8)); (try (clear e9)); (try (clear e10)); (try (clear e11)); omega)⟩
  have e2 : wrap64 (sm - 1) = (k : Int) := by rw [w64 (by ((try (clear e0)); (try (clear e1)); (try (clear e2)); (try (clear e3)); (try (clear e4)); (try (clear e5)); (try (clear e6)); (try (clear e7)); (try (clear e8)); (try (clear e9)); (try (clear e10)); (try (clear e11)); omega)) (by ((try (clear e0)); (try (clear e1)); (try (clear e2)); (try (clear e3)); (try (clear e4)); (try (clear e5)); (try (clear e6)); (try (clear e7)); (try (clear e8)); (try (clear e9)); (try (clear e10)); (try (clear e11)); omega))]; ((try (clear e0)); (try (clear e1)); (try (clear e2)); (try (clear e3)); (try (clear e4)); (try (clear e5)); (try (clear e6)); (try (clear e7)); (try (clear e8)); (try (clear e9)); (try (clear e10)); (try (clear e11)); omega)
  have hkl : k < l.length := by ((try (clear e0)); (try (clear e1)); (try (clear e2)); (try (clear e3)); (try (clear e4)); (try (clear e5)); (try (clear e6)); (try (clear e7)); (try (clear e8)); (try (clear e9)); (try (clear e10)); (try (clear e11)); omega)
  have hi : (sm - 1).toNat = k := by ((try (clear e0)); (try (clear e1)); (try (clear e2)); (try (clear e3)); (try (clear e4)); (try (clear e5)); (try (clear e6)); (try (clear e7)); (try (clear e8)); (try (clear e9)); (try (clear e10)); (try (clear e11)); omega)
  have hx : l[k]? = some l[k] := List.getElem?_eq_getElem hkl
  have hxw := hh l[k] (List.getElem_mem hkl)
  have hsR : Hd (stepR l kd sm am ho = (if kd = 2 ∧ am = 0 then some (l.set k ⟨l[k].id, l[k].par, l[k].ctx, l[k].tak, l[k].lef, l[k].usd, l[k].giv, ho⟩)
    else if kd = 3 ∧ inR 1 l[k].lef am = true then some (l.set k ⟨l[k].id, l[k].par, l[k].ctx, l[k].tak, wrap64 (l[k].lef - am), l[k].usd, wrap64 (l[k].giv + am), l[k].hol⟩ ++ [⟨n1, l[k].id, l[k].ctx, am, am, 0, 0, ho⟩])
    else if kd = 4 ∧ inR 1 l[k].lef am = true ∧ ho.toList = [] then some (l.set k ⟨l[k].id, l[k].par, l[k].ctx, l[k].tak, wrap64 (l[k].lef - am), wrap64 (l[k].usd + am), l[k].giv, l[k].hol⟩)
    else none)) := by
    simp only [Hd, stepR, if_neg h1, hR, if_true, hi, hx, Option.getD_some, ← hn1'.out]
  have hk' : Hd _ := hk
  have h3 := h3' k hkl hk
  have h4 := h4' k hkl hk
  clear h3' h4'
  clear hk hi hx hr
  obtain ⟨hb, hl⟩ := step_some (hsR.out.trans (by rw [if_neg h2, if_neg h3, if_pos h4]))
  obtain ⟨rfl, h4, h5⟩ := h4
  have hmw := W_set (x := ⟨l[k].id, l[k].par, l[k].ctx, l[k].tak, wrap64 (l[k].lef - am), wrap64 (l[k].usd + am), l[k].giv, l[k].hol⟩) (k := k) hh ⟨hxw.1, hxw.2⟩
  have cv := c_spec_l20Good _ (by simp; omega) hmw
  rw [hb]
  generalize goodS (l.set k ⟨l[k].id, l[k].par, l[k].ctx, l[k].tak, wrap64 (l[k].lef - am), wrap64 (l[k].usd + am), l[k].giv, l[k].hol⟩) = gb at *
  replace hl : Hd _ := hl
  replace hmw : Hd _ := hmw
  clear hb hh hxw h2 h3
  refine ACallX.of (N := 135) tok Try.func69 rfl rfl rfl (by simp) ?_
  repeat' (first | with_reducible refine OutOK.done ?_ | refine thenQ_n ?_ | refine thenQ_r ?_ | refine thenQ_e ?_ | refine AW.seq ?_ | refine AW.reg tok (by simp [*]; rfl) ?_ | refine AW.ifB (by simp [*]; rfl) ?_ | refine IfG.t ?_ | refine IfG.f ?_ | (refine IfG.p (fun hg => ?_) (fun hg => ?_) <;> (try (have hg' := hg; simp at hg'))) | (refine IfG.n (fun hg => ?_) (fun hg => ?_) <;> (try (have hg' := hg; simp at hg'))) | (refine OutOK.gateP (fun hg => ?_) (fun hg => ?_) <;> (try (have hg' := hg; simp at hg'))) | (refine OutOK.gateN (fun hg => ?_) (fun hg => ?_) <;> (try (have hg' := hg; simp at hg'))) | (refine IfG.g (fun hg => ?_) (fun hg => ?_) <;> (try (have hg' := hg; simp at hg'))) | (refine OutOK.gate (fun hg => ?_) (fun hg => ?_) <;> (try (have hg' := hg; simp at hg'))) | (refine OutOK.callF [] (by simp [*]; rfl) (by simp [*]; rfl) (by simp [*]; rfl) hb95 (by apply c_spec_l1In <;> first | assumption | exact Hd.out (by assumption) | ((try (clear e0)); (try (clear e1)); (try (clear e2)); (try (clear e3)); (try (clear e4)); (try (clear e5)); (try (clear e6)); (try (clear e7)); (try (clear e8)); (try (clear e9)); (try (clear e10)); (try (clear e11)); omega)) ⟨by simp [*], by simp [*], by simp [*], by simp [*], by simp [*]⟩ (by simp [*]) (by simp [*]; rfl) ?_) | (refine OutOK.callF [] (by simp [*]; rfl) (by simp [*]; rfl) (by simp [*]; rfl) hb70 (by apply cv <;> first | assumption | exact Hd.out (by assumption) | ((try (clear e0)); (try (clear e1)); (try (clear e2)); (try (clear e3)); (try (clear e4)); (try (clear e5)); (try (clear e6)); (try (clear e7)); (try (clear e8)); (try (clear e9)); (try (clear e10)); (try (clear e11)); omega)) ⟨by simp [*], by simp [*], by simp [*], by simp [*], by simp [*]⟩ (by simp [*]) (by simp [*]; rfl) ?_) | refine OutOK.run (by simp [*]; rfl) ?_ | refine AW.ret ?_ | refine AW.skip ?_ | refine AW.exit ?_ | refine fin_r ?_ | refine fin_n ?_ | refine AW.block ?_ | refine blockQ_n ?_ | refine blockQ_r ?_ | refine blockQ_e ?_ | refine blockQ_o rfl ?_)
  exact ⟨l.set k ⟨l[k].id, l[k].par, l[k].ctx, l[k].tak, wrap64 (l[k].lef - am), wrap64 (l[k].usd + am), l[k].giv, l[k].hol⟩, ⟨by simp, hmw.out, fun e => (hl.out e).symm⟩, by simp [Try.f69]⟩
theorem s_l20_n (l : List Smp) (kd sm am : Int) (ho : ByteArray) (h : l.length ≤ 1000) (hh : ∀ s ∈ l, SmpW s) (hho : ho.size ≤ 9223372036854775807) (h1 : ¬ kd = 1) (hR : inR 1 l.length sm = true) (h2 : ¬ (kd = 2 ∧ am = 0)) (h3' : ∀ (k : Nat) (hk : k < l.length), sm = ((k + 1 : Nat) : Int) → ¬ (kd = 3 ∧ inR 1 l[k].lef am = true)) (h4' : ∀ (k : Nat) (hk : k < l.length), sm = ((k + 1 : Nat) : Int) → ¬ (kd = 4 ∧ inR 1 l[k].lef am = true ∧ ho.toList = [])) : ACallX Try.prog 69 [.v (.sl true 8 (smps l)), stpD kd sm am ho] (fun x : List Smp => x.length ≤ l.length + 1 ∧ (∀ s ∈ x, SmpW s) ∧ (stepB l kd sm am ho = true → x = stepL l kd sm am ho)) (fun _ => [.x, .x]) (fun x => [.v (.sl false 8 (smps x)), boo (stepB l kd sm am ho)]) := by
  obtain ⟨n1, hn1⟩ : ∃ n1, n1 = l.length + 1 := ⟨_, rfl⟩
  have e1 : wrap64 ((l.length : Int) + 1) = (n1 : Int) := by rw [w64 (by omega) (by omega)]; omega
  have b1 : l.length * 72 ≤ 140737488355328 := by omega
  have b2 : l.length ≤ 4611686018427387904 := by omega
  have b3 : (l.length + 1) * 72 ≤ 140737488355328 := by omega
  have b4 : l.length + 1 ≤ 4611686018427387904 := by omega
  have hh' : Hd (∀ s ∈ l, SmpW s) := hh
  have hn1' : Hd _ := hn1
  clear hn1
  have hr := inR_iff.1 hR
  obtain ⟨k, hk⟩ : ∃ k : Nat, sm = ((k + 1 : Nat) : Int) := ⟨(sm - 1).toNat, by ((try (clear e0)); (try (clear e1)); (try (clear e2)); (try (clear e3)); (try (clear e4)); (try (clear e5)); (try (clear e6)); (try (clear e7)); (try (clear e8)); (try (clear e9)); (try (clear e10)); (try (clear e11)); omega)⟩
  have e2 : wrap64 (sm - 1) = (k : Int) := by rw [w64 (by ((try (clear e0)); (try (clear e1)); (try (clear e2)); (try (clear e3)); (try (clear e4)); (try (clear e5)); (try (clear e6)); (try (clear e7)); (try (clear e8)); (try (clear e9)); (try (clear e10)); (try (clear e11)); omega)) (by ((try (clear e0)); (try (clear e1)); (try (clear e2)); (try (clear e3)); (try (clear e4)); (try (clear e5)); (try (clear e6)); (try (clear e7)); (try (clear e8)); (try (clear e9)); (try (clear e10)); (try (clear e11)); omega))]; ((try (clear e0)); (try (clear e1)); (try (clear e2)); (try (clear e3)); (try (clear e4)); (try (clear e5)); (try (clear e6)); (try (clear e7)); (try (clear e8)); (try (clear e9)); (try (clear e10)); (try (clear e11)); omega)
  have hkl : k < l.length := by ((try (clear e0)); (try (clear e1)); (try (clear e2)); (try (clear e3)); (try (clear e4)); (try (clear e5)); (try (clear e6)); (try (clear e7)); (try (clear e8)); (try (clear e9)); (try (clear e10)); (try (clear e11)); omega)
  have hi : (sm - 1).toNat = k := by ((try (clear e0)); (try (clear e1)); (try (clear e2)); (try (clear e3)); (try (clear e4)); (try (clear e5)); (try (clear e6)); (try (clear e7)); (try (clear e8)); (try (clear e9)); (try (clear e10)); (try (clear e11)); omega)
  have hx : l[k]? = some l[k] := List.getElem?_eq_getElem hkl
  have hxw := hh l[k] (List.getElem_mem hkl)
  have hsR : Hd (stepR l kd sm am ho = (if kd = 2 ∧ am = 0 then some (l.set k ⟨l[k].id, l[k].par, l[k].ctx, l[k].tak, l[k].lef, l[k].usd, l[k].giv, ho⟩)
    else if kd = 3 ∧ inR 1 l[k].lef am = true then some (l.set k ⟨l[k].id, l[k].par, l[k].ctx, l[k].tak, wrap64 (l[k].lef - am), l[k].usd, wrap64 (l[k].giv + am), l[k].hol⟩ ++ [⟨n1, l[k].id, l[k].ctx, am, am, 0, 0, ho⟩])
    else if kd = 4 ∧ inR 1 l[k].lef am = true ∧ ho.toList = [] then some (l.set k ⟨l[k].id, l[k].par, l[k].ctx, l[k].tak, wrap64 (l[k].lef - am), wrap64 (l[k].usd + am), l[k].giv, l[k].hol⟩)
    else none)) := by
    simp only [Hd, stepR, if_neg h1, hR, if_true, hi, hx, Option.getD_some, ← hn1'.out]
  have hk' : Hd _ := hk
  have h3 := h3' k hkl hk
  have h4 := h4' k hkl hk
  clear h3' h4'
  clear hk hi hx hr
  have hs := hsR.out
  rw [if_neg h2, if_neg h3, if_neg h4] at hs
  have hb := step_none hs
  rw [hb]
  clear hb hs hh hxw hsR
  by_cases k2 : kd = 2
  · have a0 : ¬ am = 0 := fun e => h2 ⟨k2, e⟩
    subst k2
    clear h2 h3 h4 h1
    refine ACallX.of (N := 135) tok Try.func69 rfl rfl rfl (by simp) ?_
    repeat' (first | with_reducible refine OutOK.done ?_ | refine thenQ_n ?_ | refine thenQ_r ?_ | refine thenQ_e ?_ | refine AW.seq ?_ | refine AW.reg tok (by simp [*]; rfl) ?_ | refine AW.ifB (by simp [*]; rfl) ?_ | refine IfG.t ?_ | refine IfG.f ?_ | (refine IfG.p (fun hg => ?_) (fun hg => ?_) <;> (try (have hg' := hg; simp at hg'))) | (refine IfG.n (fun hg => ?_) (fun hg => ?_) <;> (try (have hg' := hg; simp at hg'))) | (refine OutOK.gateP (fun hg => ?_) (fun hg => ?_) <;> (try (have hg' := hg; simp at hg'))) | (refine OutOK.gateN (fun hg => ?_) (fun hg => ?_) <;> (try (have hg' := hg; simp at hg'))) | (refine IfG.g (fun hg => ?_) (fun hg => ?_) <;> (try (have hg' := hg; simp at hg'))) | (refine OutOK.gate (fun hg => ?_) (fun hg => ?_) <;> (try (have hg' := hg; simp at hg'))) | (refine OutOK.callF [] (by simp [*]; rfl) (by simp [*]; rfl) (by simp [*]; rfl) hb95 (by apply c_spec_l1In <;> first | assumption | exact Hd.out (by assumption) | ((try (clear e0)); (try (clear e1)); (try (clear e2)); (try (clear e3)); (try (clear e4)); (try (clear e5)); (try (clear e6)); (try (clear e7)); (try (clear e8)); (try (clear e9)); (try (clear e10)); (try (clear e11)); omega)) ⟨by simp [*], by simp [*], by simp [*], by simp [*], by simp [*]⟩ (by simp [*]) (by simp [*]; rfl) ?_) | refine OutOK.run (by simp [*]; rfl) ?_ | refine AW.ret ?_ | refine AW.skip ?_ | refine AW.exit ?_ | refine fin_r ?_ | refine fin_n ?_ | refine AW.block ?_ | refine blockQ_n ?_ | refine blockQ_r ?_ | refine blockQ_e ?_ | refine blockQ_o rfl ?_)
    exact ⟨l, ⟨by simp, hh'.out, fun e => by simp at e⟩, by simp [Try.f69]⟩
  by_cases k3 : kd = 3
  · have a0 : inR 1 l[k].lef am = false := by simpa [k3] using h3
    subst k3
    clear h2 h3 h4 h1 k2
    refine ACallX.of (N := 135) tok Try.func69 rfl rfl rfl (by simp) ?_
    repeat' (first | with_reducible refine OutOK.done ?_ | refine thenQ_n ?_ | refine thenQ_r ?_ | refine thenQ_e ?_ | refine AW.seq ?_ | refine AW.reg tok (by simp [*]; rfl) ?_ | refine AW.ifB (by simp [*]; rfl) ?_ | refine IfG.t ?_ | refine IfG.f ?_ | (refine IfG.p (fun hg => ?_) (fun hg => ?_) <;> (try (have hg' := hg; simp at hg'))) | (refine IfG.n (fun hg => ?_) (fun hg => ?_) <;> (try (have hg' := hg; simp at hg'))) | (refine OutOK.gateP (fun hg => ?_) (fun hg => ?_) <;> (try (have hg' := hg; simp at hg'))) | (refine OutOK.gateN (fun hg => ?_) (fun hg => ?_) <;> (try (have hg' := hg; simp at hg'))) | (refine IfG.g (fun hg => ?_) (fun hg => ?_) <;> (try (have hg' := hg; simp at hg'))) | (refine OutOK.gate (fun hg => ?_) (fun hg => ?_) <;> (try (have hg' := hg; simp at hg'))) | (refine OutOK.callF [] (by simp [*]; rfl) (by simp [*]; rfl) (by simp [*]; rfl) hb95 (by apply c_spec_l1In <;> first | assumption | exact Hd.out (by assumption) | ((try (clear e0)); (try (clear e1)); (try (clear e2)); (try (clear e3)); (try (clear e4)); (try (clear e5)); (try (clear e6)); (try (clear e7)); (try (clear e8)); (try (clear e9)); (try (clear e10)); (try (clear e11)); omega)) ⟨by simp [*], by simp [*], by simp [*], by simp [*], by simp [*]⟩ (by simp [*]) (by simp [*]; rfl) ?_) | refine OutOK.run (by simp [*]; rfl) ?_ | refine AW.ret ?_ | refine AW.skip ?_ | refine AW.exit ?_ | refine fin_r ?_ | refine fin_n ?_ | refine AW.block ?_ | refine blockQ_n ?_ | refine blockQ_r ?_ | refine blockQ_e ?_ | refine blockQ_o rfl ?_)
    exact ⟨l, ⟨by simp, hh'.out, fun e => by simp at e⟩, by simp [Try.f69]⟩
  by_cases k4 : kd = 4
  · cases a0 : inR 1 l[k].lef am with
    | false =>
      subst k4
      clear h2 h3 h4 h1 k2 k3
      refine ACallX.of (N := 135) tok Try.func69 rfl rfl rfl (by simp) ?_
      repeat' (first | with_reducible refine OutOK.done ?_ | refine thenQ_n ?_ | refine thenQ_r ?_ | refine thenQ_e ?_ | refine AW.seq ?_ | refine AW.reg tok (by simp [*]; rfl) ?_ | refine AW.ifB (by simp [*]; rfl) ?_ | refine IfG.t ?_ | refine IfG.f ?_ | (refine IfG.p (fun hg => ?_) (fun hg => ?_) <;> (try (have hg' := hg; simp at hg'))) | (refine IfG.n (fun hg => ?_) (fun hg => ?_) <;> (try (have hg' := hg; simp at hg'))) | (refine OutOK.gateP (fun hg => ?_) (fun hg => ?_) <;> (try (have hg' := hg; simp at hg'))) | (refine OutOK.gateN (fun hg => ?_) (fun hg => ?_) <;> (try (have hg' := hg; simp at hg'))) | (refine IfG.g (fun hg => ?_) (fun hg => ?_) <;> (try (have hg' := hg; simp at hg'))) | (refine OutOK.gate (fun hg => ?_) (fun hg => ?_) <;> (try (have hg' := hg; simp at hg'))) | (refine OutOK.callF [] (by simp [*]; rfl) (by simp [*]; rfl) (by simp [*]; rfl) hb95 (by apply c_spec_l1In <;> first | assumption | exact Hd.out (by assumption) | ((try (clear e0)); (try (clear e1)); (try (clear e2)); (try (clear e3)); (try (clear e4)); (try (clear e5)); (try (clear e6)); (try (clear e7)); (try (clear e8)); (try (clear e9)); (try (clear e10)); (try (clear e11)); omega)) ⟨by simp [*], by simp [*], by simp [*], by simp [*], by simp [*]⟩ (by simp [*]) (by simp [*]; rfl) ?_) | refine OutOK.run (by simp [*]; rfl) ?_ | refine AW.ret ?_ | refine AW.skip ?_ | refine AW.exit ?_ | refine fin_r ?_ | refine fin_n ?_ | refine AW.block ?_ | refine blockQ_n ?_ | refine blockQ_r ?_ | refine blockQ_e ?_ | refine blockQ_o rfl ?_)
      exact ⟨l, ⟨by simp, hh'.out, fun e => by simp at e⟩, by simp [Try.f69]⟩
    | true =>
      have a1 : ¬ ho.toList = [] := fun e => h4 ⟨k4, a0, e⟩
      subst k4
      clear h2 h3 h4 h1 k2 k3
      refine ACallX.of (N := 135) tok Try.func69 rfl rfl rfl (by simp) ?_
      repeat' (first | with_reducible refine OutOK.done ?_ | refine thenQ_n ?_ | refine thenQ_r ?_ | refine thenQ_e ?_ | refine AW.seq ?_ | refine AW.reg tok (by simp [*]; rfl) ?_ | refine AW.ifB (by simp [*]; rfl) ?_ | refine IfG.t ?_ | refine IfG.f ?_ | (refine IfG.p (fun hg => ?_) (fun hg => ?_) <;> (try (have hg' := hg; simp at hg'))) | (refine IfG.n (fun hg => ?_) (fun hg => ?_) <;> (try (have hg' := hg; simp at hg'))) | (refine OutOK.gateP (fun hg => ?_) (fun hg => ?_) <;> (try (have hg' := hg; simp at hg'))) | (refine OutOK.gateN (fun hg => ?_) (fun hg => ?_) <;> (try (have hg' := hg; simp at hg'))) | (refine IfG.g (fun hg => ?_) (fun hg => ?_) <;> (try (have hg' := hg; simp at hg'))) | (refine OutOK.gate (fun hg => ?_) (fun hg => ?_) <;> (try (have hg' := hg; simp at hg'))) | (refine OutOK.callF [] (by simp [*]; rfl) (by simp [*]; rfl) (by simp [*]; rfl) hb95 (by apply c_spec_l1In <;> first | assumption | exact Hd.out (by assumption) | ((try (clear e0)); (try (clear e1)); (try (clear e2)); (try (clear e3)); (try (clear e4)); (try (clear e5)); (try (clear e6)); (try (clear e7)); (try (clear e8)); (try (clear e9)); (try (clear e10)); (try (clear e11)); omega)) ⟨by simp [*], by simp [*], by simp [*], by simp [*], by simp [*]⟩ (by simp [*]) (by simp [*]; rfl) ?_) | refine OutOK.run (by simp [*]; rfl) ?_ | refine AW.ret ?_ | refine AW.skip ?_ | refine AW.exit ?_ | refine fin_r ?_ | refine fin_n ?_ | refine AW.block ?_ | refine blockQ_n ?_ | refine blockQ_r ?_ | refine blockQ_e ?_ | refine blockQ_o rfl ?_)
      exact ⟨l, ⟨by simp, hh'.out, fun e => by simp at e⟩, by simp [Try.f69]⟩
  · clear h2 h3 h4
    refine ACallX.of (N := 135) tok Try.func69 rfl rfl rfl (by simp) ?_
    repeat' (first | with_reducible refine OutOK.done ?_ | refine thenQ_n ?_ | refine thenQ_r ?_ | refine thenQ_e ?_ | refine AW.seq ?_ | refine AW.reg tok (by simp [*]; rfl) ?_ | refine AW.ifB (by simp [*]; rfl) ?_ | refine IfG.t ?_ | refine IfG.f ?_ | (refine IfG.p (fun hg => ?_) (fun hg => ?_) <;> (try (have hg' := hg; simp at hg'))) | (refine IfG.n (fun hg => ?_) (fun hg => ?_) <;> (try (have hg' := hg; simp at hg'))) | (refine OutOK.gateP (fun hg => ?_) (fun hg => ?_) <;> (try (have hg' := hg; simp at hg'))) | (refine OutOK.gateN (fun hg => ?_) (fun hg => ?_) <;> (try (have hg' := hg; simp at hg'))) | (refine IfG.g (fun hg => ?_) (fun hg => ?_) <;> (try (have hg' := hg; simp at hg'))) | (refine OutOK.gate (fun hg => ?_) (fun hg => ?_) <;> (try (have hg' := hg; simp at hg'))) | (refine OutOK.callF [] (by simp [*]; rfl) (by simp [*]; rfl) (by simp [*]; rfl) hb95 (by apply c_spec_l1In <;> first | assumption | exact Hd.out (by assumption) | ((try (clear e0)); (try (clear e1)); (try (clear e2)); (try (clear e3)); (try (clear e4)); (try (clear e5)); (try (clear e6)); (try (clear e7)); (try (clear e8)); (try (clear e9)); (try (clear e10)); (try (clear e11)); omega)) ⟨by simp [*], by simp [*], by simp [*], by simp [*], by simp [*]⟩ (by simp [*]) (by simp [*]; rfl) ?_) | refine OutOK.run (by simp [*]; rfl) ?_ | refine AW.ret ?_ | refine AW.skip ?_ | refine AW.exit ?_ | refine fin_r ?_ | refine fin_n ?_ | refine AW.block ?_ | refine blockQ_n ?_ | refine blockQ_r ?_ | refine blockQ_e ?_ | refine blockQ_o rfl ?_)
    exact ⟨l, ⟨by simp, hh'.out, fun e => by simp at e⟩, by simp [Try.f69]⟩
theorem x_spec_l20Step (l : List Smp) (kd sm am : Int) (ho : ByteArray) (h : l.length ≤ 1000) (hh : ∀ s ∈ l, SmpW s) (hho : ho.size ≤ 9223372036854775807) : ACallX Try.prog 69 [.v (.sl true 8 (smps l)), stpD kd sm am ho] (fun x : List Smp => x.length ≤ l.length + 1 ∧ (∀ s ∈ x, SmpW s) ∧ (stepB l kd sm am ho = true → x = stepL l kd sm am ho)) (fun _ => [.x, .x]) (fun x => [.v (.sl false 8 (smps x)), boo (stepB l kd sm am ho)]) := by
  by_cases h1 : kd = 1
  · exact s_l20_1 l kd sm am ho h hh hho h1
  cases hR : inR 1 l.length sm with
  | false => exact s_l20_R l kd sm am ho h hh hho h1 hR
  | true =>
    by_cases h2 : kd = 2 ∧ am = 0
    · exact s_l20_2 l kd sm am ho h hh hho h1 hR h2
    have hr := inR_iff.1 hR
    obtain ⟨k, hk⟩ : ∃ k : Nat, sm = ((k + 1 : Nat) : Int) := ⟨(sm - 1).toNat, by omega⟩
    have hkl : k < l.length := by omega
    have hu : ∀ k', sm = ((k' + 1 : Nat) : Int) → k' = k := fun k' e => by omega
    by_cases h3 : kd = 3 ∧ inR 1 l[k].lef am = true
    · exact s_l20_3 l kd sm am ho h hh hho h1 hR h2 (fun k' _ e => by obtain rfl := hu k' e; exact h3)
    by_cases h4 : kd = 4 ∧ inR 1 l[k].lef am = true ∧ ho.toList = []
    · exact s_l20_4 l kd sm am ho h hh hho h1 hR h2 (fun k' _ e => by obtain rfl := hu k' e; exact h3) (fun k' _ e => by obtain rfl := hu k' e; exact h4)
    · exact s_l20_n l kd sm am ho h hh hho h1 hR h2 (fun k' _ e => by obtain rfl := hu k' e; exact h3) (fun k' _ e => by obtain rfl := hu k' e; exact h4)
end Go.Proofs.Ytodombkmnnggeaa.EngS


set_option linter.unusedSimpArgs false
set_option linter.unusedVariables false
set_option maxHeartbeats 4000000
set_option maxRecDepth 100000
namespace Go.Proofs.Ytodombkmnnggeaa.EngS
open Go Go.Proofs Go.Eng Go.RowKit
structure SmpF (x : Smp) (k : Nat) : Prop where
  id : x.id = ((k + 1 : Nat) : Int)
  p0 : 0 ≤ x.par
  p1 : x.par ≤ k
  t1 : 1 ≤ x.tak
  t2 : x.tak ≤ 500
  l1 : 0 ≤ x.lef
  l2 : x.lef ≤ x.tak
  u1 : 0 ≤ x.usd
  u2 : x.usd ≤ x.tak
  g1 : 0 ≤ x.giv
  g2 : x.giv ≤ x.tak
  s : x.lef + x.usd + x.giv = x.tak
theorem good_x {l : List Smp} (hg : goodS l = true) (hw : ∀ s ∈ l, SmpW s) {k : Nat} (hk : k < l.length) : l.length ≤ 16 ∧ SmpF l[k] k ∧ l[k].giv = givI l l[k].id l.length := by
  obtain ⟨h16, h⟩ := goodS_at hg
  have h := h k hk
  have hx := hw l[k] (List.getElem_mem hk)
  generalize l[k] = x at *
  simp only [smOK, smA, smB, smD, Bool.and_eq_true, decide_eq_true_eq, inR_iff] at h
  obtain ⟨⟨⟨⟨⟨⟨⟨⟨⟨⟨a1, a2⟩, a3⟩, a4⟩, a5⟩, a6⟩, a7⟩, a8⟩, ⟨⟨b1, b2⟩, b3⟩⟩, c1⟩, d1⟩ := h
  obtain ⟨w1, w2, w3⟩ := hx
  have e1 : wrap64 ((k : Int) + 1) = (k : Int) + 1 := w64 (by omega) (by omega)
  have e2 : wrap64 (x.lef + x.usd) = x.lef + x.usd := w64 (by omega) (by omega)
  rw [e1] at a1
  rw [e2] at b3
  have hs : x.lef + x.usd + x.giv = x.tak := by
    clear d1 c1 e1 e2 a1
    unfold wrap64 at b3
    omega
  refine ⟨h16, ⟨by omega, a2.1, a2.2, a4.1, a4.2, a5, b1, a6, b2, a7, by omega, hs⟩, d1⟩
attribute [local irreducible] Go.RowKit.wrap64
theorem c_slices_Clone_impl_Sample_impl_Sample (l : List Smp) (h : l.length ≤ 1000) : ACall Try.prog 73 [.v (.sl true 8 (smps l))] [.x] [.v (.sl false 8 (smps l))] := by
  have h1 : (l.length : Int) * 72 ≤ 140737488355328 := by omega
  have h2 : (l.length : Int) ≤ 4611686018427387904 := by omega
  have h3 : l.length * 72 ≤ 140737488355328 := by omega
  have h4 : l.length ≤ 4611686018427387904 := by omega
  refine ACall.of (N := 8) tok Try.func73 rfl rfl rfl (by simp) ?_
  repeat' (first | with_reducible refine OutOK.done ?_ | refine thenQ_n ?_ | refine thenQ_r ?_ | refine thenQ_e ?_ | refine AW.seq ?_ | (refine AW.isNil tok rfl rfl rfl (by simp [*]; rfl) (by simp [*]; done) (by decide) ?_; intro hb hc; cases hb <;> simp at hc) | refine AW.reg tok (by simp [*]; rfl) ?_ | refine AW.ifB (by simp [*]; rfl) ?_ | refine IfG.t ?_ | refine IfG.f ?_ | (refine IfG.p (fun hg => ?_) (fun hg => ?_) <;> (try (have hg' := hg; simp at hg'))) | (refine IfG.n (fun hg => ?_) (fun hg => ?_) <;> (try (have hg' := hg; simp at hg'))) | (refine OutOK.gateP (fun hg => ?_) (fun hg => ?_) <;> (try (have hg' := hg; simp at hg'))) | (refine OutOK.gateN (fun hg => ?_) (fun hg => ?_) <;> (try (have hg' := hg; simp at hg'))) | (refine IfG.g (fun hg => ?_) (fun hg => ?_) <;> (try (have hg' := hg; simp at hg'))) | (refine OutOK.gate (fun hg => ?_) (fun hg => ?_) <;> (try (have hg' := hg; simp at hg'))) | refine OutOK.run (by simp [*]; rfl) ?_ | refine AW.ret ?_ | refine AW.skip ?_ | refine AW.exit ?_ | refine fin_r ?_ | refine fin_n ?_ | refine AW.block ?_ | refine blockQ_n ?_ | refine blockQ_r ?_ | refine blockQ_e ?_ | refine blockQ_o rfl ?_)
  all_goals (try simp [*, Try.f73])
theorem goodS_tak {l : List Smp} {i : Nat} (hl : i < l.length) (h : inR 1 500 l[i].tak = false) : goodS l = false := goodS_no hl (by simp [smOK, smA, h])
theorem goodS_lef {l : List Smp} {i : Nat} (hl : i < l.length) (h : l[i].lef < 0) : goodS l = false := goodS_no hl (by simp [smOK, smA, show ¬ 0 ≤ l[i].lef by omega])
theorem step_at {l : List Smp} {kd sm am : Int} {ho : ByteArray} {k : Nat} (h1 : ¬ kd = 1) (hk : sm = ((k + 1 : Nat) : Int)) (hkl : k < l.length) :
    stepR l kd sm am ho = (if kd = 2 ∧ am = 0 then some (l.set k ⟨l[k].id, l[k].par, l[k].ctx, l[k].tak, l[k].lef, l[k].usd, l[k].giv, ho⟩)
      else if kd = 3 ∧ inR 1 l[k].lef am = true then some (l.set k ⟨l[k].id, l[k].par, l[k].ctx, l[k].tak, wrap64 (l[k].lef - am), l[k].usd, wrap64 (l[k].giv + am), l[k].hol⟩ ++ [⟨(l.length + 1 : Nat), l[k].id, l[k].ctx, am, am, 0, 0, ho⟩])
      else if kd = 4 ∧ inR 1 l[k].lef am = true ∧ ho.toList = [] then some (l.set k ⟨l[k].id, l[k].par, l[k].ctx, l[k].tak, wrap64 (l[k].lef - am), wrap64 (l[k].usd + am), l[k].giv, l[k].hol⟩)
      else none) := by
  have hR : inR 1 l.length sm = true := inR_iff.2 ⟨by omega, by omega⟩
  have hi : (sm - 1).toNat = k := by omega
  have hx : l[k]? = some l[k] := List.getElem?_eq_getElem hkl
  simp only [stepR, if_neg h1, hR, if_true, hi, hx, Option.getD_some]
theorem lef_under {x : Smp} {k : Nat} {am : Int} (hf : SmpF x k) (ha : inR 0 500 am = true) (h0 : ¬ am = 0) (hn : inR 1 x.lef am = false) : wrap64 (x.lef - am) < 0 := by
  have h1 := hf.l1; have h2 := hf.l2; have h3 := hf.t2
  rw [inR_iff] at ha
  rw [inR_not] at hn
  rw [w64 (by omega) (by omega)]; omega
theorem step_3 {l : List Smp} {sm am : Int} {ho : ByteArray} {k : Nat} (hf : ∀ (hk : k < l.length), SmpF l[k] k) (hk : sm = ((k + 1 : Nat) : Int)) (hkl : k < l.length) (ha : inR 0 500 am = true) (h0 : ¬ am = 0) :
    stepB l 3 sm am ho = goodS (l.set k ⟨l[k].id, l[k].par, l[k].ctx, l[k].tak, wrap64 (l[k].lef - am), l[k].usd, wrap64 (l[k].giv + am), l[k].hol⟩ ++ [⟨(l.length + 1 : Nat), l[k].id, l[k].ctx, am, am, 0, 0, ho⟩]) ∧ (goodS (l.set k ⟨l[k].id, l[k].par, l[k].ctx, l[k].tak, wrap64 (l[k].lef - am), l[k].usd, wrap64 (l[k].giv + am), l[k].hol⟩ ++ [⟨(l.length + 1 : Nat), l[k].id, l[k].ctx, am, am, 0, 0, ho⟩]) = true →
      stepL l 3 sm am ho = l.set k ⟨l[k].id, l[k].par, l[k].ctx, l[k].tak, wrap64 (l[k].lef - am), l[k].usd, wrap64 (l[k].giv + am), l[k].hol⟩ ++ [⟨(l.length + 1 : Nat), l[k].id, l[k].ctx, am, am, 0, 0, ho⟩]) := by
  have hs := step_at (am := am) (ho := ho) (show ¬ (3 : Int) = 1 by decide) hk hkl
  rw [if_neg (by simp)] at hs
  cases hi : inR 1 l[k].lef am with
  | true =>
    rw [if_pos ⟨rfl, hi⟩] at hs
    exact step_some hs
  | false =>
    rw [if_neg (by simp [hi]), if_neg (by simp)] at hs
    have hb := step_none hs
    have hg : goodS (l.set k ⟨l[k].id, l[k].par, l[k].ctx, l[k].tak, wrap64 (l[k].lef - am), l[k].usd, wrap64 (l[k].giv + am), l[k].hol⟩ ++ [⟨(l.length + 1 : Nat), l[k].id, l[k].ctx, am, am, 0, 0, ho⟩]) = false :=
      goodS_lef (i := k) (by simp; omega) (by rw [List.getElem_append_left (by simpa using hkl), List.getElem_set_self]; exact lef_under (hf hkl) ha h0 hi)
    rw [hb, hg]
    exact ⟨rfl, fun e => by cases e⟩
theorem step_4 {l : List Smp} {sm am : Int} {ho : ByteArray} {k : Nat} (hf : ∀ (hk : k < l.length), SmpF l[k] k) (hk : sm = ((k + 1 : Nat) : Int)) (hkl : k < l.length) (ha : inR 0 500 am = true) (h0 : ¬ am = 0) (h5 : ho.toList = []) :
    stepB l 4 sm am ho = goodS (l.set k ⟨l[k].id, l[k].par, l[k].ctx, l[k].tak, wrap64 (l[k].lef - am), wrap64 (l[k].usd + am), l[k].giv, l[k].hol⟩) ∧ (goodS (l.set k ⟨l[k].id, l[k].par, l[k].ctx, l[k].tak, wrap64 (l[k].lef - am), wrap64 (l[k].usd + am), l[k].giv, l[k].hol⟩) = true →
      stepL l 4 sm am ho = l.set k ⟨l[k].id, l[k].par, l[k].ctx, l[k].tak, wrap64 (l[k].lef - am), wrap64 (l[k].usd + am), l[k].giv, l[k].hol⟩) := by
  have hs := step_at (am := am) (ho := ho) (show ¬ (4 : Int) = 1 by decide) hk hkl
  rw [if_neg (by simp), if_neg (by simp)] at hs
  cases hi : inR 1 l[k].lef am with
  | true =>
    rw [if_pos ⟨rfl, hi, h5⟩] at hs
    exact step_some hs
  | false =>
    rw [if_neg (by simp [hi])] at hs
    have hb := step_none hs
    have hg : goodS (l.set k ⟨l[k].id, l[k].par, l[k].ctx, l[k].tak, wrap64 (l[k].lef - am), wrap64 (l[k].usd + am), l[k].giv, l[k].hol⟩) = false :=
      goodS_lef (i := k) (by simpa using hkl) (by rw [List.getElem_set_self]; exact lef_under (hf hkl) ha h0 hi)
    rw [hb, hg]
    exact ⟨rfl, fun e => by cases e⟩
theorem s_app_1n (l : List Smp) (kd sm am : Int) (ho : ByteArray) (hgl : goodS l = true) (hh : ∀ s ∈ l, SmpW s) (hho : ho.size ≤ 9223372036854775807) (h1 : kd = 1) (hA : inR 1 500 am = false) : ACall Try.prog 74 [.v (.sl true 8 (smps l)), stpD kd sm am ho] [.x, .x] [.v (.sl false 8 (smps (stepL l kd sm am ho))), boo (stepB l kd sm am ho)] := by
  obtain ⟨n1, hn1⟩ : ∃ n1, n1 = l.length + 1 := ⟨_, rfl⟩
  have h16 := (goodS_at hgl).1
  have e1 : wrap64 ((l.length : Int) + 1) = (n1 : Int) := by rw [w64 (by omega) (by omega)]; omega
  have b3 : (l.length + 1) * 72 ≤ 140737488355328 := by omega
  have b4 : l.length + 1 ≤ 4611686018427387904 := by omega
  have cc := c_slices_Clone_impl_Sample_impl_Sample l (by omega)
  have i0 : inR 0 500 0 = true := inR_iff.2 ⟨by omega, by omega⟩
  have hn1' : Hd _ := hn1
  clear hn1
  have hb : stepB l kd sm am ho = false := by
    rw [(step_some (m := l ++ [⟨n1, 0, sm, am, am, 0, 0, ho⟩]) (by simp [stepR, h1, hn1'.out])).1]
    exact goodS_tak (i := l.length) (by simp) (by simpa using hA)
  rw [show stepL l kd sm am ho = [] by simp [stepL, hb], hb]
  clear hb hgl hh
  subst h1
  by_cases ha : am = 0
  · subst ha
    refine ACall.of (N := 140) tok Try.func74 rfl rfl rfl (by simp) ?_
    repeat' (first | with_reducible refine OutOK.done ?_ | refine thenQ_n ?_ | refine thenQ_r ?_ | refine thenQ_e ?_ | refine AW.seq ?_ | refine AW.dreg tok mixed [5]  [(0, false), (1, false), (2, false), (4, false), (3, false), (5, true), (6, false), (7, false), (8, false), (9, false)] (by decide +kernel) rfl (by simp [*]; rfl) ?_ | refine AW.dreg tok mixed [5]  [(0, false), (1, false), (2, false), (4, false), (3, false), (5, true), (6, false), (7, false), (8, false), (9, false)] (by decide +kernel) rfl (by simp [*]; rfl) ?_ | refine AW.dreg tok mixed [9, 11, 13, 15]  [(0, false), (1, false), (2, false), (3, false), (4, false), (6, false), (7, false), (8, false), (10, false), (12, false), (14, false), (5, false), (9, true), (11, true), (13, true), (15, true), (16, false), (17, false), (18, false), (19, false)] (by decide +kernel) rfl (by simp [*]; rfl) ?_ | refine AW.dreg tok mixed [8]  [(0, false), (1, false), (7, false), (2, false), (3, false), (4, false), (5, false), (6, false), (8, true), (9, false), (10, false), (11, false), (12, false)] (by decide +kernel) rfl (by simp [*]; rfl) ?_ | refine AW.dreg tok mixed [8]  [(0, false), (1, false), (7, false), (2, false), (3, false), (4, false), (5, false), (6, false), (8, true), (9, false), (10, false), (11, false), (12, false)] (by decide +kernel) rfl (by simp [*]; rfl) ?_ | refine AW.reg tok (by simp [*]; rfl) ?_ | refine AW.ifB (by simp [*]; rfl) ?_ | refine IfG.t ?_ | refine IfG.f ?_ | (refine IfG.p (fun hg => ?_) (fun hg => ?_) <;> (try (have hg' := hg; simp at hg'))) | (refine IfG.n (fun hg => ?_) (fun hg => ?_) <;> (try (have hg' := hg; simp at hg'))) | (refine OutOK.gateP (fun hg => ?_) (fun hg => ?_) <;> (try (have hg' := hg; simp at hg'))) | (refine OutOK.gateN (fun hg => ?_) (fun hg => ?_) <;> (try (have hg' := hg; simp at hg'))) | (refine IfG.g (fun hg => ?_) (fun hg => ?_) <;> (try (have hg' := hg; simp at hg'))) | (refine OutOK.gate (fun hg => ?_) (fun hg => ?_) <;> (try (have hg' := hg; simp at hg'))) | (refine OutOK.callF [] (by simp [*]; rfl) (by simp [*]; rfl) (by simp [*]; rfl) hb76 (by apply c_impl_within <;> first | assumption | exact Hd.out (by assumption) | ((try (clear e0)); (try (clear e1)); (try (clear e2)); (try (clear e3)); (try (clear e4)); (try (clear e5)); (try (clear e6)); (try (clear e7)); (try (clear e8)); (try (clear e9)); (try (clear e10)); (try (clear e11)); omega)) ⟨by simp [*], by simp [*], by simp [*], by simp [*], by simp [*]⟩ (by simp [*]) (by simp [*]; rfl) ?_) | (refine OutOK.callF [] (by simp [*]; rfl) (by simp [*]; rfl) (by simp [*]; rfl) hb73 (by apply cc <;> first | assumption | exact Hd.out (by assumption) | ((try (clear e0)); (try (clear e1)); (try (clear e2)); (try (clear e3)); (try (clear e4)); (try (clear e5)); (try (clear e6)); (try (clear e7)); (try (clear e8)); (try (clear e9)); (try (clear e10)); (try (clear e11)); omega)) ⟨by simp [*], by simp [*], by simp [*], by simp [*], by simp [*]⟩ (by simp [*]) (by simp [*]; rfl) ?_) | refine OutOK.run (by simp [*]; rfl) ?_ | refine AW.ret ?_ | refine AW.skip ?_ | refine AW.exit ?_ | refine fin_r ?_ | refine fin_n ?_ | refine AW.block ?_ | refine blockQ_n ?_ | refine blockQ_r ?_ | refine blockQ_e ?_ | refine blockQ_o rfl ?_)
    simp [Try.f74, smps]
  · have hA2 : inR 0 500 am = false := by
      rw [inR_not] at hA ⊢; omega
    clear hA
    refine ACall.of (N := 140) tok Try.func74 rfl rfl rfl (by simp) ?_
    repeat' (first | with_reducible refine OutOK.done ?_ | refine thenQ_n ?_ | refine thenQ_r ?_ | refine thenQ_e ?_ | refine AW.seq ?_ | refine AW.dreg tok mixed [5]  [(0, false), (1, false), (2, false), (4, false), (3, false), (5, true), (6, false), (7, false), (8, false), (9, false)] (by decide +kernel) rfl (by simp [*]; rfl) ?_ | refine AW.dreg tok mixed [5]  [(0, false), (1, false), (2, false), (4, false), (3, false), (5, true), (6, false), (7, false), (8, false), (9, false)] (by decide +kernel) rfl (by simp [*]; rfl) ?_ | refine AW.dreg tok mixed [9, 11, 13, 15]  [(0, false), (1, false), (2, false), (3, false), (4, false), (6, false), (7, false), (8, false), (10, false), (12, false), (14, false), (5, false), (9, true), (11, true), (13, true), (15, true), (16, false), (17, false), (18, false), (19, false)] (by decide +kernel) rfl (by simp [*]; rfl) ?_ | refine AW.dreg tok mixed [8]  [(0, false), (1, false), (7, false), (2, false), (3, false), (4, false), (5, false), (6, false), (8, true), (9, false), (10, false), (11, false), (12, false)] (by decide +kernel) rfl (by simp [*]; rfl) ?_ | refine AW.dreg tok mixed [8]  [(0, false), (1, false), (7, false), (2, false), (3, false), (4, false), (5, false), (6, false), (8, true), (9, false), (10, false), (11, false), (12, false)] (by decide +kernel) rfl (by simp [*]; rfl) ?_ | refine AW.reg tok (by simp [*]; rfl) ?_ | refine AW.ifB (by simp [*]; rfl) ?_ | refine IfG.t ?_ | refine IfG.f ?_ | (refine IfG.p (fun hg => ?_) (fun hg => ?_) <;> (try (have hg' := hg; simp at hg'))) | (refine IfG.n (fun hg => ?_) (fun hg => ?_) <;> (try (have hg' := hg; simp at hg'))) | (refine OutOK.gateP (fun hg => ?_) (fun hg => ?_) <;> (try (have hg' := hg; simp at hg'))) | (refine OutOK.gateN (fun hg => ?_) (fun hg => ?_) <;> (try (have hg' := hg; simp at hg'))) | (refine IfG.g (fun hg => ?_) (fun hg => ?_) <;> (try (have hg' := hg; simp at hg'))) | (refine OutOK.gate (fun hg => ?_) (fun hg => ?_) <;> (try (have hg' := hg; simp at hg'))) | (refine OutOK.callF [] (by simp [*]; rfl) (by simp [*]; rfl) (by simp [*]; rfl) hb76 (by apply c_impl_within <;> first | assumption | exact Hd.out (by assumption) | ((try (clear e0)); (try (clear e1)); (try (clear e2)); (try (clear e3)); (try (clear e4)); (try (clear e5)); (try (clear e6)); (try (clear e7)); (try (clear e8)); (try (clear e9)); (try (clear e10)); (try (clear e11)); omega)) ⟨by simp [*], by simp [*], by simp [*], by simp [*], by simp [*]⟩ (by simp [*]) (by simp [*]; rfl) ?_) | (refine OutOK.callF [] (by simp [*]; rfl) (by simp [*]; rfl) (by simp [*]; rfl) hb73 (by apply cc <;> first | assumption | exact Hd.out (by assumption) | ((try (clear e0)); (try (clear e1)); (try (clear e2)); (try (clear e3)); (try (clear e4)); (try (clear e5)); (try (clear e6)); (try (clear e7)); (try (clear e8)); (try (clear e9)); (try (clear e10)); (try (clear e11)); omega)) ⟨by simp [*], by simp [*], by simp [*], by simp [*], by simp [*]⟩ (by simp [*]) (by simp [*]; rfl) ?_) | refine OutOK.run (by simp [*]; rfl) ?_ | refine AW.ret ?_ | refine AW.skip ?_ | refine AW.exit ?_ | refine fin_r ?_ | refine fin_n ?_ | refine AW.block ?_ | refine blockQ_n ?_ | refine blockQ_r ?_ | refine blockQ_e ?_ | refine blockQ_o rfl ?_)
    simp [Try.f74, smps]
theorem s_app_1 (l : List Smp) (kd sm am : Int) (ho : ByteArray) (hgl : goodS l = true) (hh : ∀ s ∈ l, SmpW s) (hho : ho.size ≤ 9223372036854775807) (h1 : kd = 1) (hA : inR 1 500 am = true) : ACall Try.prog 74 [.v (.sl true 8 (smps l)), stpD kd sm am ho] [.x, .x] [.v (.sl false 8 (smps (stepL l kd sm am ho))), boo (stepB l kd sm am ho)] := by
  obtain ⟨n1, hn1⟩ : ∃ n1, n1 = l.length + 1 := ⟨_, rfl⟩
  have h16 := (goodS_at hgl).1
  have e1 : wrap64 ((l.length : Int) + 1) = (n1 : Int) := by rw [w64 (by omega) (by omega)]; omega
  have b3 : (l.length + 1) * 72 ≤ 140737488355328 := by omega
  have b4 : l.length + 1 ≤ 4611686018427387904 := by omega
  have cc := c_slices_Clone_impl_Sample_impl_Sample l (by omega)
  have i0 : inR 0 500 0 = true := inR_iff.2 ⟨by omega, by omega⟩
  have hn1' : Hd _ := hn1
  clear hn1
  have hA2 : inR 0 500 am = true := by
    rw [inR_iff] at hA ⊢; omega
  have ha : ¬ am = 0 := by rw [inR_iff] at hA; omega
  clear hA
  obtain ⟨hb, hl⟩ := step_some (m := l ++ [(⟨n1, 0, sm, am, am, 0, 0, ho⟩ : Smp)]) (show stepR l kd sm am ho = _ by simp [stepR, h1, hn1'.out])
  have hmw : ∀ s ∈ l ++ [(⟨n1, 0, sm, am, am, 0, 0, ho⟩ : Smp)], SmpW s := W_app hh ⟨hho, by simp, by simp⟩
  have cv := c_impl_IsValidSamples _ (by simp; omega) hmw
  have hm : stepL l kd sm am ho = if goodS (l ++ [(⟨n1, 0, sm, am, am, 0, 0, ho⟩ : Smp)]) = true then l ++ [(⟨n1, 0, sm, am, am, 0, 0, ho⟩ : Smp)] else [] := by
    split
    · rename_i e; exact hl e
    · rename_i e; have : stepB l kd sm am ho = false := by rw [hb]; simpa using e
      simp [stepL, this]
  rw [hm, hb]
  subst h1
  cases hgb : goodS (l ++ [(⟨n1, 0, sm, am, am, 0, 0, ho⟩ : Smp)]) <;> rw [hgb] at cv
  · clear hm hb hl hgb hmw hgl hh 
    refine ACall.of (N := 140) tok Try.func74 rfl rfl rfl (by simp) ?_
    repeat' (first | with_reducible refine OutOK.done ?_ | refine thenQ_n ?_ | refine thenQ_r ?_ | refine thenQ_e ?_ | refine AW.seq ?_ | refine AW.dreg tok mixed [5]  [(0, false), (1, false), (2, false), (4, false), (3, false), (5, true), (6, false), (7, false), (8, false), (9, false)] (by decide +kernel) rfl (by simp (maxSteps := 3000000) [*]; rfl) ?_ | refine AW.dreg tok mixed [5]  [(0, false), (1, false), (2, false), (4, false), (3, false), (5, true), (6, false), (7, false), (8, false), (9, false)] (by decide +kernel) rfl (by simp (maxSteps := 3000000) [*]; rfl) ?_ | refine AW.dreg tok mixed [9, 11, 13, 15]  [(0, false), (1, false), (2, false), (3, false), (4, false), (6, false), (7, false), (8, false), (10, false), (12, false), (14, false), (5, false), (9, true), (11, true), (13, true), (15, true), (16, false), (17, false), (18, false), (19, false)] (by decide +kernel) rfl (by simp (maxSteps := 3000000) [*]; rfl) ?_ | refine AW.dreg tok mixed [8]  [(0, false), (1, false), (7, false), (2, false), (3, false), (4, false), (5, false), (6, false), (8, true), (9, false), (10, false), (11, false), (12, false)] (by decide +kernel) rfl (by simp (maxSteps := 3000000) [*]; rfl) ?_ | refine AW.dreg tok mixed [8]  [(0, false), (1, false), (7, false), (2, false), (3, false), (4, false), (5, false), (6, false), (8, true), (9, false), (10, false), (11, false), (12, false)] (by decide +kernel) rfl (by simp (maxSteps := 3000000) [*]; rfl) ?_ | refine AW.reg tok (by simp (maxSteps := 3000000) [*]; rfl) ?_ | refine AW.ifB (by simp (maxSteps := 3000000) [*]; rfl) ?_ | refine IfG.t ?_ | refine IfG.f ?_ | (refine IfG.p (fun hg => ?_) (fun hg => ?_) <;> (try (have hg' := hg; simp at hg'))) | (refine IfG.n (fun hg => ?_) (fun hg => ?_) <;> (try (have hg' := hg; simp at hg'))) | (refine OutOK.gateP (fun hg => ?_) (fun hg => ?_) <;> (try (have hg' := hg; simp at hg'))) | (refine OutOK.gateN (fun hg => ?_) (fun hg => ?_) <;> (try (have hg' := hg; simp at hg'))) | (refine IfG.g (fun hg => ?_) (fun hg => ?_) <;> (try (have hg' := hg; simp at hg'))) | (refine OutOK.gate (fun hg => ?_) (fun hg => ?_) <;> (try (have hg' := hg; simp at hg'))) | (refine OutOK.callF [] (by simp (maxSteps := 3000000) [*]; rfl) (by simp (maxSteps := 3000000) [*]; rfl) (by simp (maxSteps := 3000000) [*]; rfl) hb76 (by apply c_impl_within <;> first | assumption | exact Hd.out (by assumption) | ((try (clear e0)); (try (clear e1)); (try (clear e2)); (try (clear e3)); (try (clear e4)); (try (clear e5)); (try (clear e6)); (try (clear e7)); (try (clear e8)); (try (clear e9)); (try (clear e10)); (try (clear e11)); omega)) ⟨by simp (maxSteps := 3000000) [*], by simp (maxSteps := 3000000) [*], by simp (maxSteps := 3000000) [*], by simp (maxSteps := 3000000) [*], by simp (maxSteps := 3000000) [*]⟩ (by simp (maxSteps := 3000000) [*]) (by simp (maxSteps := 3000000) [*]; rfl) ?_) | (refine OutOK.callF [] (by simp (maxSteps := 3000000) [*]; rfl) (by simp (maxSteps := 3000000) [*]; rfl) (by simp (maxSteps := 3000000) [*]; rfl) hb73 (by apply cc <;> first | assumption | exact Hd.out (by assumption) | ((try (clear e0)); (try (clear e1)); (try (clear e2)); (try (clear e3)); (try (clear e4)); (try (clear e5)); (try (clear e6)); (try (clear e7)); (try (clear e8)); (try (clear e9)); (try (clear e10)); (try (clear e11)); omega)) ⟨by simp (maxSteps := 3000000) [*], by simp (maxSteps := 3000000) [*], by simp (maxSteps := 3000000) [*], by simp (maxSteps := 3000000) [*], by simp (maxSteps := 3000000) [*]⟩ (by simp (maxSteps := 3000000) [*]) (by simp (maxSteps := 3000000) [*]; rfl) ?_) | (refine OutOK.callF [] (by simp (maxSteps := 3000000) [*]; rfl) (by simp (maxSteps := 3000000) [*]; rfl) (by simp (maxSteps := 3000000) [*]; rfl) hb72 (by apply cv <;> first | assumption | exact Hd.out (by assumption) | ((try (clear e0)); (try (clear e1)); (try (clear e2)); (try (clear e3)); (try (clear e4)); (try (clear e5)); (try (clear e6)); (try (clear e7)); (try (clear e8)); (try (clear e9)); (try (clear e10)); (try (clear e11)); omega)) ⟨by simp (maxSteps := 3000000) [*], by simp (maxSteps := 3000000) [*], by simp (maxSteps := 3000000) [*], by simp (maxSteps := 3000000) [*], by simp (maxSteps := 3000000) [*]⟩ (by simp (maxSteps := 3000000) [*]) (by simp (maxSteps := 3000000) [*]; rfl) ?_) | refine OutOK.run (by simp (maxSteps := 3000000) [*]; rfl) ?_ | refine AW.ret ?_ | refine AW.skip ?_ | refine AW.exit ?_ | refine fin_r ?_ | refine fin_n ?_ | refine AW.block ?_ | refine blockQ_n ?_ | refine blockQ_r ?_ | refine blockQ_e ?_ | refine blockQ_o rfl ?_)
    simp [Try.f74, smps]
  · clear hm hb hl hgb hmw hgl hh 
    refine ACall.of (N := 140) tok Try.func74 rfl rfl rfl (by simp) ?_
    repeat' (first | with_reducible refine OutOK.done ?_ | refine thenQ_n ?_ | refine thenQ_r ?_ | refine thenQ_e ?_ | refine AW.seq ?_ | refine AW.dreg tok mixed [5]  [(0, false), (1, false), (2, false), (4, false), (3, false), (5, true), (6, false), (7, false), (8, false), (9, false)] (by decide +kernel) rfl (by simp (maxSteps := 3000000) [*]; rfl) ?_ | refine AW.dreg tok mixed [5]  [(0, false), (1, false), (2, false), (4, false), (3, false), (5, true), (6, false), (7, false), (8, false), (9, false)] (by decide +kernel) rfl (by simp (maxSteps := 3000000) [*]; rfl) ?_ | refine AW.dreg tok mixed [9, 11, 13, 15]  [(0, false), (1, false), (2, false), (3, false), (4, false), (6, false), (7, false), (8, false), (10, false), (12, false), (14, false), (5, false), (9, true), (11, true), (13, true), (15, true), (16, false), (17, false), (18, false), (19, false)] (by decide +kernel) rfl (by simp (maxSteps := 3000000) [*]; rfl) ?_ | refine AW.dreg tok mixed [8]  [(0, false), (1, false), (7, false), (2, false), (3, false), (4, false), (5, false), (6, false), (8, true), (9, false), (10, false), (11, false), (12, false)] (by decide +kernel) rfl (by simp (maxSteps := 3000000) [*]; rfl) ?_ | refine AW.dreg tok mixed [8]  [(0, false), (1, false), (7, false), (2, false), (3, false), (4, false), (5, false), (6, false), (8, true), (9, false), (10, false), (11, false), (12, false)] (by decide +kernel) rfl (by simp (maxSteps := 3000000) [*]; rfl) ?_ | refine AW.reg tok (by simp (maxSteps := 3000000) [*]; rfl) ?_ | refine AW.ifB (by simp (maxSteps := 3000000) [*]; rfl) ?_ | refine IfG.t ?_ | refine IfG.f ?_ | (refine IfG.p (fun hg => ?_) (fun hg => ?_) <;> (try (have hg' := hg; simp at hg'))) | (refine IfG.n (fun hg => ?_) (fun hg => ?_) <;> (try (have hg' := hg; simp at hg'))) | (refine OutOK.gateP (fun hg => ?_) (fun hg => ?_) <;> (try (have hg' := hg; simp at hg'))) | (refine OutOK.gateN (fun hg => ?_) (fun hg => ?_) <;> (try (have hg' := hg; simp at hg'))) | (refine IfG.g (fun hg => ?_) (fun hg => ?_) <;> (try (have hg' := hg; simp at hg'))) | (refine OutOK.gate (fun hg => ?_) (fun hg => ?_) <;> (try (have hg' := hg; simp at hg'))) | (refine OutOK.callF [] (by simp (maxSteps := 3000000) [*]; rfl) (by simp (maxSteps := 3000000) [*]; rfl) (by simp (maxSteps := 3000000) [*]; rfl) hb76 (by apply c_impl_within <;> first | assumption | exact Hd.out (by assumption) | ((try (clear e0)); (try (clear e1)); (try (clear e2)); (try (clear e3)); (try (clear e4)); (try (clear e5)); (try (clear e6)); (try (clear e7)); (try (clear e8)); (try (clear e9)); (try (clear e10)); (try (clear e11)); omega)) ⟨by simp (maxSteps := 3000000) [*], by simp (maxSteps := 3000000) [*], by simp (maxSteps := 3000000) [*], by simp (maxSteps := 3000000) [*], by simp (maxSteps := 3000000) [*]⟩ (by simp (maxSteps := 3000000) [*]) (by simp (maxSteps := 3000000) [*]; rfl) ?_) | (refine OutOK.callF [] (by simp (maxSteps := 3000000) [*]; rfl) (by simp (maxSteps := 3000000) [*]; rfl) (by simp (maxSteps := 3000000) [*]; rfl) hb73 (by apply cc <;> first | assumption | exact Hd.out (by assumption) | ((try (clear e0)); (try (clear e1)); (try (clear e2)); (try (clear e3)); (try (clear e4)); (try (clear e5)); (try (clear e6)); (try (clear e7)); (try (clear e8)); (try (clear e9)); (try (clear e10)); (try (clear e11)); omega)) ⟨by simp (maxSteps := 3000000) [*], by simp (maxSteps := 3000000) [*], by simp (maxSteps := 3000000) [*], by simp (maxSteps := 3000000) [*], by simp (maxSteps := 3000000) [*]⟩ (by simp (maxSteps := 3000000) [*]) (by simp (maxSteps := 3000000) [*]; rfl) ?_) | (refine OutOK.callF [] (by simp (maxSteps := 3000000) [*]; rfl) (by simp (maxSteps := 3000000) [*]; rfl) (by simp (maxSteps := 3000000) [*]; rfl) hb72 (by apply cv <;> first | assumption | exact Hd.out (by assumption) | ((try (clear e0)); (try (clear e1)); (try (clear e2)); (try (clear e3)); (try (clear e4)); (try (clear e5)); (try (clear e6)); (try (clear e7)); (try (clear e8)); (try (clear e9)); (try (clear e10)); (try (clear e11)); omega)) ⟨by simp (maxSteps := 3000000) [*], by simp (maxSteps := 3000000) [*], by simp (maxSteps := 3000000) [*], by simp (maxSteps := 3000000) [*], by simp (maxSteps := 3000000) [*]⟩ (by simp (maxSteps := 3000000) [*]) (by simp (maxSteps := 3000000) [*]; rfl) ?_) | refine OutOK.run (by simp (maxSteps := 3000000) [*]; rfl) ?_ | refine AW.ret ?_ | refine AW.skip ?_ | refine AW.exit ?_ | refine fin_r ?_ | refine fin_n ?_ | refine AW.block ?_ | refine blockQ_n ?_ | refine blockQ_r ?_ | refine blockQ_e ?_ | refine blockQ_o rfl ?_)
    simp [Try.f74]
theorem s_app_R (l : List Smp) (kd sm am : Int) (ho : ByteArray) (hgl : goodS l = true) (hh : ∀ s ∈ l, SmpW s) (hho : ho.size ≤ 9223372036854775807) (h1 : ¬ kd = 1) (hR : inR 1 l.length sm = false) : ACall Try.prog 74 [.v (.sl true 8 (smps l)), stpD kd sm am ho] [.x, .x] [.v (.sl false 8 (smps (stepL l kd sm am ho))), boo (stepB l kd sm am ho)] := by
  obtain ⟨n1, hn1⟩ : ∃ n1, n1 = l.length + 1 := ⟨_, rfl⟩
  have h16 := (goodS_at hgl).1
  have e1 : wrap64 ((l.length : Int) + 1) = (n1 : Int) := by rw [w64 (by omega) (by omega)]; omega
  have b3 : (l.length + 1) * 72 ≤ 140737488355328 := by omega
  have b4 : l.length + 1 ≤ 4611686018427387904 := by omega
  have cc := c_slices_Clone_impl_Sample_impl_Sample l (by omega)
  have i0 : inR 0 500 0 = true := inR_iff.2 ⟨by omega, by omega⟩
  have hn1' : Hd _ := hn1
  clear hn1
  have hb := step_none (show stepR l kd sm am ho = none by simp [stepR, h1, hR])
  rw [show stepL l kd sm am ho = [] by simp [stepL, hb], hb]
  clear hb hgl hh 
  refine ACall.of (N := 140) tok Try.func74 rfl rfl rfl (by simp) ?_
  repeat' (first | with_reducible refine OutOK.done ?_ | refine thenQ_n ?_ | refine thenQ_r ?_ | refine thenQ_e ?_ | refine AW.seq ?_ | refine AW.dreg tok mixed [5]  [(0, false), (1, false), (2, false), (4, false), (3, false), (5, true), (6, false), (7, false), (8, false), (9, false)] (by decide +kernel) rfl (by simp [*]; rfl) ?_ | refine AW.dreg tok mixed [5]  [(0, false), (1, false), (2, false), (4, false), (3, false), (5, true), (6, false), (7, false), (8, false), (9, false)] (by decide +kernel) rfl (by simp [*]; rfl) ?_ | refine AW.dreg tok mixed [9, 11, 13, 15]  [(0, false), (1, false), (2, false), (3, false), (4, false), (6, false), (7, false), (8, false), (10, false), (12, false), (14, false), (5, false), (9, true), (11, true), (13, true), (15, true), (16, false), (17, false), (18, false), (19, false)] (by decide +kernel) rfl (by simp [*]; rfl) ?_ | refine AW.dreg tok mixed [8]  [(0, false), (1, false), (7, false), (2, false), (3, false), (4, false), (5, false), (6, false), (8, true), (9, false), (10, false), (11, false), (12, false)] (by decide +kernel) rfl (by simp [*]; rfl) ?_ | refine AW.dreg tok mixed [8]  [(0, false), (1, false), (7, false), (2, false), (3, false), (4, false), (5, false), (6, false), (8, true), (9, false), (10, false), (11, false), (12, false)] (by decide +kernel) rfl (by simp [*]; rfl) ?_ | refine AW.reg tok (by simp [*]; rfl) ?_ | refine AW.ifB (by simp [*]; rfl) ?_ | refine IfG.t ?_ | refine IfG.f ?_ | (refine IfG.p (fun hg => ?_) (fun hg => ?_) <;> (try (have hg' := hg; simp at hg'))) | (refine IfG.n (fun hg => ?_) (fun hg => ?_) <;> (try (have hg' := hg; simp at hg'))) | (refine OutOK.gateP (fun hg => ?_) (fun hg => ?_) <;> (try (have hg' := hg; simp at hg'))) | (refine OutOK.gateN (fun hg => ?_) (fun hg => ?_) <;> (try (have hg' := hg; simp at hg'))) | (refine IfG.g (fun hg => ?_) (fun hg => ?_) <;> (try (have hg' := hg; simp at hg'))) | (refine OutOK.gate (fun hg => ?_) (fun hg => ?_) <;> (try (have hg' := hg; simp at hg'))) | (refine OutOK.callF [] (by simp [*]; rfl) (by simp [*]; rfl) (by simp [*]; rfl) hb76 (by apply c_impl_within <;> first | assumption | exact Hd.out (by assumption) | ((try (clear e0)); (try (clear e1)); (try (clear e2)); (try (clear e3)); (try (clear e4)); (try (clear e5)); (try (clear e6)); (try (clear e7)); (try (clear e8)); (try (clear e9)); (try (clear e10)); (try (clear e11)); omega)) ⟨by simp [*], by simp [*], by simp [*], by simp [*], by simp [*]⟩ (by simp [*]) (by simp [*]; rfl) ?_) | (refine OutOK.callF [] (by simp [*]; rfl) (by simp [*]; rfl) (by simp [*]; rfl) hb73 (by apply cc <;> first | assumption | exact Hd.out (by assumption) | ((try (clear e0)); (try (clear e1)); (try (clear e2)); (try (clear e3)); (try (clear e4)); (try (clear e5)); (try (clear e6)); (try (clear e7)); (try (clear e8)); (try (clear e9)); (try (clear e10)); (try (clear e11)); omega)) ⟨by simp [*], by simp [*], by simp [*], by simp [*], by simp [*]⟩ (by simp [*]) (by simp [*]; rfl) ?_) | refine OutOK.run (by simp [*]; rfl) ?_ | refine AW.ret ?_ | refine AW.skip ?_ | refine AW.exit ?_ | refine fin_r ?_ | refine fin_n ?_ | refine AW.block ?_ | refine blockQ_n ?_ | refine blockQ_r ?_ | refine blockQ_e ?_ | refine blockQ_o rfl ?_)
  simp [Try.f74, smps]
theorem s_app_z (l : List Smp) (kd sm am : Int) (ho : ByteArray) (hgl : goodS l = true) (hh : ∀ s ∈ l, SmpW s) (hho : ho.size ≤ 9223372036854775807) (h1 : ¬ kd = 1) (hR : inR 1 l.length sm = true) (k : Nat) (hkl : k < l.length) (hk : sm = ((k + 1 : Nat) : Int)) (h2 : ¬ kd = 2) (hA : inR 0 500 am = false ∨ am = 0) : ACall Try.prog 74 [.v (.sl true 8 (smps l)), stpD kd sm am ho] [.x, .x] [.v (.sl false 8 (smps (stepL l kd sm am ho))), boo (stepB l kd sm am ho)] := by
  obtain ⟨n1, hn1⟩ : ∃ n1, n1 = l.length + 1 := ⟨_, rfl⟩
  have h16 := (goodS_at hgl).1
  have e1 : wrap64 ((l.length : Int) + 1) = (n1 : Int) := by rw [w64 (by omega) (by omega)]; omega
  have b3 : (l.length + 1) * 72 ≤ 140737488355328 := by omega
  have b4 : l.length + 1 ≤ 4611686018427387904 := by omega
  have cc := c_slices_Clone_impl_Sample_impl_Sample l (by omega)
  have i0 : inR 0 500 0 = true := inR_iff.2 ⟨by omega, by omega⟩
  have hn1' : Hd _ := hn1
  clear hn1
  have e2 : wrap64 (sm - 1) = (k : Int) := by rw [w64 (by ((try (clear e0)); (try (clear e1)); (try (clear e2)); (try (clear e3)); (try (clear e4)); (try (clear e5)); (try (clear e6)); (try (clear e7)); (try (clear e8)); (try (clear e9)); (try (clear e10)); (try (clear e11)); omega)) (by ((try (clear e0)); (try (clear e1)); (try (clear e2)); (try (clear e3)); (try (clear e4)); (try (clear e5)); (try (clear e6)); (try (clear e7)); (try (clear e8)); (try (clear e9)); (try (clear e10)); (try (clear e11)); omega))]; ((try (clear e0)); (try (clear e1)); (try (clear e2)); (try (clear e3)); (try (clear e4)); (try (clear e5)); (try (clear e6)); (try (clear e7)); (try (clear e8)); (try (clear e9)); (try (clear e10)); (try (clear e11)); omega)
  have hf : SmpF l[k] k := (good_x hgl hh hkl).2.1
  have hid : l[k].id = sm := by rw [hf.id, hk]
  have hk' : Hd _ := hk
  have hxw := hh l[k] (List.getElem_mem hkl)
  have hn : inR 1 l[k].lef am = false := by
    have := hf.l2; have := hf.t2
    rw [inR_not]
    rcases hA with hA | hA
    · rw [inR_not] at hA; omega
    · omega
  have hb := step_none (show stepR l kd sm am ho = none by rw [step_at h1 hk hkl, if_neg (by simp [h2]), if_neg (by simp [hn]), if_neg (by simp [hn])])
  rw [show stepL l kd sm am ho = [] by simp [stepL, hb], hb]
  clear hb hgl hh hn hk hid hf hxw
  rcases hA with hA | hA
  · by_cases ha : am = 0
    · subst ha
      refine ACall.of (N := 140) tok Try.func74 rfl rfl rfl (by simp) ?_
      repeat' (first | with_reducible refine OutOK.done ?_ | refine thenQ_n ?_ | refine thenQ_r ?_ | refine thenQ_e ?_ | refine AW.seq ?_ | refine AW.dreg tok mixed [5]  [(0, false), (1, false), (2, false), (4, false), (3, false), (5, true), (6, false), (7, false), (8, false), (9, false)] (by decide +kernel) rfl (by simp [*]; rfl) ?_ | refine AW.dreg tok mixed [5]  [(0, false), (1, false), (2, false), (4, false), (3, false), (5, true), (6, false), (7, false), (8, false), (9, false)] (by decide +kernel) rfl (by simp [*]; rfl) ?_ | refine AW.dreg tok mixed [9, 11, 13, 15]  [(0, false), (1, false), (2, false), (3, false), (4, false), (6, false), (7, false), (8, false), (10, false), (12, false), (14, false), (5, false), (9, true), (11, true), (13, true), (15, true), (16, false), (17, false), (18, false), (19, false)] (by decide +kernel) rfl (by simp [*]; rfl) ?_ | refine AW.dreg tok mixed [8]  [(0, false), (1, false), (7, false), (2, false), (3, false), (4, false), (5, false), (6, false), (8, true), (9, false), (10, false), (11, false), (12, false)] (by decide +kernel) rfl (by simp [*]; rfl) ?_ | refine AW.dreg tok mixed [8]  [(0, false), (1, false), (7, false), (2, false), (3, false), (4, false), (5, false), (6, false), (8, true), (9, false), (10, false), (11, false), (12, false)] (by decide +kernel) rfl (by simp [*]; rfl) ?_ | refine AW.reg tok (by simp [*]; rfl) ?_ | refine AW.ifB (by simp [*]; rfl) ?_ | refine IfG.t ?_ | refine IfG.f ?_ | (refine IfG.p (fun hg => ?_) (fun hg => ?_) <;> (try (have hg' := hg; simp at hg'))) | (refine IfG.n (fun hg => ?_) (fun hg => ?_) <;> (try (have hg' := hg; simp at hg'))) | (refine OutOK.gateP (fun hg => ?_) (fun hg => ?_) <;> (try (have hg' := hg; simp at hg'))) | (refine OutOK.gateN (fun hg => ?_) (fun hg => ?_) <;> (try (have hg' := hg; simp at hg'))) | (refine IfG.g (fun hg => ?_) (fun hg => ?_) <;> (try (have hg' := hg; simp at hg'))) | (refine OutOK.gate (fun hg => ?_) (fun hg => ?_) <;> (try (have hg' := hg; simp at hg'))) | (refine OutOK.callF [] (by simp [*]; rfl) (by simp [*]; rfl) (by simp [*]; rfl) hb76 (by apply c_impl_within <;> first | assumption | exact Hd.out (by assumption) | ((try (clear e0)); (try (clear e1)); (try (clear e2)); (try (clear e3)); (try (clear e4)); (try (clear e5)); (try (clear e6)); (try (clear e7)); (try (clear e8)); (try (clear e9)); (try (clear e10)); (try (clear e11)); omega)) ⟨by simp [*], by simp [*], by simp [*], by simp [*], by simp [*]⟩ (by simp [*]) (by simp [*]; rfl) ?_) | (refine OutOK.callF [] (by simp [*]; rfl) (by simp [*]; rfl) (by simp [*]; rfl) hb73 (by apply cc <;> first | assumption | exact Hd.out (by assumption) | ((try (clear e0)); (try (clear e1)); (try (clear e2)); (try (clear e3)); (try (clear e4)); (try (clear e5)); (try (clear e6)); (try (clear e7)); (try (clear e8)); (try (clear e9)); (try (clear e10)); (try (clear e11)); omega)) ⟨by simp [*], by simp [*], by simp [*], by simp [*], by simp [*]⟩ (by simp [*]) (by simp [*]; rfl) ?_) | refine OutOK.run (by simp [*]; rfl) ?_ | refine AW.ret ?_ | refine AW.skip ?_ | refine AW.exit ?_ | refine fin_r ?_ | refine fin_n ?_ | refine AW.block ?_ | refine blockQ_n ?_ | refine blockQ_r ?_ | refine blockQ_e ?_ | refine blockQ_o rfl ?_)
      simp [Try.f74, smps]
    · refine ACall.of (N := 140) tok Try.func74 rfl rfl rfl (by simp) ?_
      repeat' (first | with_reducible refine OutOK.done ?_ | refine thenQ_n ?_ | refine thenQ_r ?_ | refine thenQ_e ?_ | refine AW.seq ?_ | refine AW.dreg tok mixed [5]  [(0, false), (1, false), (2, false), (4, false), (3, false), (5, true), (6, false), (7, false), (8, false), (9, false)] (by decide +kernel) rfl (by simp [*]; rfl) ?_ | refine AW.dreg tok mixed [5]  [(0, false), (1, false), (2, false), (4, false), (3, false), (5, true), (6, false), (7, false), (8, false), (9, false)] (by decide +kernel) rfl (by simp [*]; rfl) ?_ | refine AW.dreg tok mixed [9, 11, 13, 15]  [(0, false), (1, false), (2, false), (3, false), (4, false), (6, false), (7, false), (8, false), (10, false), (12, false), (14, false), (5, false), (9, true), (11, true), (13, true), (15, true), (16, false), (17, false), (18, false), (19, false)] (by decide +kernel) rfl (by simp [*]; rfl) ?_ | refine AW.dreg tok mixed [8]  [(0, false), (1, false), (7, false), (2, false), (3, false), (4, false), (5, false), (6, false), (8, true), (9, false), (10, false), (11, false), (12, false)] (by decide +kernel) rfl (by simp [*]; rfl) ?_ | refine AW.dreg tok mixed [8]  [(0, false), (1, false), (7, false), (2, false), (3, false), (4, false), (5, false), (6, false), (8, true), (9, false), (10, false), (11, false), (12, false)] (by decide +kernel) rfl (by simp [*]; rfl) ?_ | refine AW.reg tok (by simp [*]; rfl) ?_ | refine AW.ifB (by simp [*]; rfl) ?_ | refine IfG.t ?_ | refine IfG.f ?_ | (refine IfG.p (fun hg => ?_) (fun hg => ?_) <;> (try (have hg' := hg; simp at hg'))) | (refine IfG.n (fun hg => ?_) (fun hg => ?_) <;> (try (have hg' := hg; simp at hg'))) | (refine OutOK.gateP (fun hg => ?_) (fun hg => ?_) <;> (try (have hg' := hg; simp at hg'))) | (refine OutOK.gateN (fun hg => ?_) (fun hg => ?_) <;> (try (have hg' := hg; simp at hg'))) | (refine IfG.g (fun hg => ?_) (fun hg => ?_) <;> (try (have hg' := hg; simp at hg'))) | (refine OutOK.gate (fun hg => ?_) (fun hg => ?_) <;> (try (have hg' := hg; simp at hg'))) | (refine OutOK.callF [] (by simp [*]; rfl) (by simp [*]; rfl) (by simp [*]; rfl) hb76 (by apply c_impl_within <;> first | assumption | exact Hd.out (by assumption) | ((try (clear e0)); (try (clear e1)); (try (clear e2)); (try (clear e3)); (try (clear e4)); (try (clear e5)); (try (clear e6)); (try (clear e7)); (try (clear e8)); (try (clear e9)); (try (clear e10)); (try (clear e11)); omega)) ⟨by simp [*], by simp [*], by simp [*], by simp [*], by simp [*]⟩ (by simp [*]) (by simp [*]; rfl) ?_) | (refine OutOK.callF [] (by simp [*]; rfl) (by simp [*]; rfl) (by simp [*]; rfl) hb73 (by apply cc <;> first | assumption | exact Hd.out (by assumption) | ((try (clear e0)); (try (clear e1)); (try (clear e2)); (try (clear e3)); (try (clear e4)); (try (clear e5)); (try (clear e6)); (try (clear e7)); (try (clear e8)); (try (clear e9)); (try (clear e10)); (try (clear e11)); omega)) ⟨by simp [*], by simp [*], by simp [*], by simp [*], by simp [*]⟩ (by simp [*]) (by simp [*]; rfl) ?_) | refine OutOK.run (by simp [*]; rfl) ?_ | refine AW.ret ?_ | refine AW.skip ?_ | refine AW.exit ?_ | refine fin_r ?_ | refine fin_n ?_ | refine AW.block ?_ | refine blockQ_n ?_ | refine blockQ_r ?_ | refine blockQ_e ?_ | refine blockQ_o rfl ?_)
      simp [Try.f74, smps]
  · subst hA
    refine ACall.of (N := 140) tok Try.func74 rfl rfl rfl (by simp) ?_
    repeat' (first | with_reducible refine OutOK.done ?_ | refine thenQ_n ?_ | refine thenQ_r ?_ | refine thenQ_e ?_ | refine AW.seq ?_ | refine AW.dreg tok mixed [5]  [(0, false), (1, false), (2, false), (4, false), (3, false), (5, true), (6, false), (7, false), (8, false), (9, false)] (by decide +kernel) rfl (by simp [*]; rfl) ?_ | refine AW.dreg tok mixed [5]  [(0, false), (1, false), (2, false), (4, false), (3, false), (5, true), (6, false), (7, false), (8, false), (9, false)] (by decide +kernel) rfl (by simp [*]; rfl) ?_ | refine AW.dreg tok mixed [9, 11, 13, 15]  [(0, false), (1, false), (2, false), (3, false), (4, false), (6, false), (7, false), (8, false), (10, false), (12, false), (14, false), (5, false), (9, true), (11, true), (13, true), (15, true), (16, false), (17, false), (18, false), (19, false)] (by decide +kernel) rfl (by simp [*]; rfl) ?_ | refine AW.dreg tok mixed [8]  [(0, false), (1, false), (7, false), (2, false), (3, false), (4, false), (5, false), (6, false), (8, true), (9, false), (10, false), (11, false), (12, false)] (by decide +kernel) rfl (by simp [*]; rfl) ?_ | refine AW.dreg tok mixed [8]  [(0, false), (1, false), (7, false), (2, false), (3, false), (4, false), (5, false), (6, false), (8, true), (9, false), (10, false), (11, false), (12, false)] (by decide +kernel) rfl (by simp [*]; rfl) ?_ | refine AW.reg tok (by simp [*]; rfl) ?_ | refine AW.ifB (by simp [*]; rfl) ?_ | refine IfG.t ?_ | refine IfG.f ?_ | (refine IfG.p (fun hg => ?_) (fun hg => ?_) <;> (try (have hg' := hg; simp at hg'))) | (refine IfG.n (fun hg => ?_) (fun hg => ?_) <;> (try (have hg' := hg; simp at hg'))) | (refine OutOK.gateP (fun hg => ?_) (fun hg => ?_) <;> (try (have hg' := hg; simp at hg'))) | (refine OutOK.gateN (fun hg => ?_) (fun hg => ?_) <;> (try (have hg' := hg; simp at hg'))) | (refine IfG.g (fun hg => ?_) (fun hg => ?_) <;> (try (have hg' := hg; simp at hg'))) | (refine OutOK.gate (fun hg => ?_) (fun hg => ?_) <;> (try (have hg' := hg; simp at hg'))) | (refine OutOK.callF [] (by simp [*]; rfl) (by simp [*]; rfl) (by simp [*]; rfl) hb76 (by apply c_impl_within <;> first | assumption | exact Hd.out (by assumption) | ((try (clear e0)); (try (clear e1)); (try (clear e2)); (try (clear e3)); (try (clear e4)); (try (clear e5)); (try (clear e6)); (try (clear e7)); (try (clear e8)); (try (clear e9)); (try (clear e10)); (try (clear e11)); omega)) ⟨by simp [*], by simp [*], by simp [*], by simp [*], by simp [*]⟩ (by simp [*]) (by simp [*]; rfl) ?_) | (refine OutOK.callF [] (by simp [*]; rfl) (by simp [*]; rfl) (by simp [*]; rfl) hb73 (by apply cc <;> first | assumption | exact Hd.out (by assumption) | ((try (clear e0)); (try (clear e1)); (try (clear e2)); (try (clear e3)); (try (clear e4)); (try (clear e5)); (try (clear e6)); (try (clear e7)); (try (clear e8)); (try (clear e9)); (try (clear e10)); (try (clear e11)); omega)) ⟨by simp [*], by simp [*], by simp [*], by simp [*], by simp [*]⟩ (by simp [*]) (by simp [*]; rfl) ?_) | refine OutOK.run (by simp [*]; rfl) ?_ | refine AW.ret ?_ | refine AW.skip ?_ | refine AW.exit ?_ | refine fin_r ?_ | refine fin_n ?_ | refine AW.block ?_ | refine blockQ_n ?_ | refine blockQ_r ?_ | refine blockQ_e ?_ | refine blockQ_o rfl ?_)
    simp [Try.f74, smps]
theorem s_app_2n (l : List Smp) (kd sm am : Int) (ho : ByteArray) (hgl : goodS l = true) (hh : ∀ s ∈ l, SmpW s) (hho : ho.size ≤ 9223372036854775807) (h1 : ¬ kd = 1) (hR : inR 1 l.length sm = true) (k : Nat) (hkl : k < l.length) (hk : sm = ((k + 1 : Nat) : Int)) (h2 : kd = 2) (ha : ¬ am = 0) : ACall Try.prog 74 [.v (.sl true 8 (smps l)), stpD kd sm am ho] [.x, .x] [.v (.sl false 8 (smps (stepL l kd sm am ho))), boo (stepB l kd sm am ho)] := by
  obtain ⟨n1, hn1⟩ : ∃ n1, n1 = l.length + 1 := ⟨_, rfl⟩
  have h16 := (goodS_at hgl).1
  have e1 : wrap64 ((l.length : Int) + 1) = (n1 : Int) := by rw [w64 (by omega) (by omega)]; omega
  have b3 : (l.length + 1) * 72 ≤ 140737488355328 := by omega
  have b4 : l.length + 1 ≤ 4611686018427387904 := by omega
  have cc := c_slices_Clone_impl_Sample_impl_Sample l (by omega)
  have i0 : inR 0 500 0 = true := inR_iff.2 ⟨by omega, by omega⟩
  have hn1' : Hd _ := hn1
  clear hn1
  have e2 : wrap64 (sm - 1) = (k : Int) := by rw [w64 (by ((try (clear e0)); (try (clear e1)); (try (clear e2)); (try (clear e3)); (try (clear e4)); (try (clear e5)); (try (clear e6)); (try (clear e7)); (try (clear e8)); (try (clear e9)); (try (clear e10)); (try (clear e11)); omega)) (by ((try (clear e0)); (try (clear e1)); (try (clear e2)); (try (clear e3)); (try (clear e4)); (try (clear e5)); (try (clear e6)); (try (clear e7)); (try (clear e8)); (try (clear e9)); (try (clear e10)); (try (clear e11)); omega))]; ((try (clear e0)); (try (clear e1)); (try (clear e2)); (try (clear e3)); (try (clear e4)); (try (clear e5)); (try (clear e6)); (try (clear e7)); (try (clear e8)); (try (clear e9)); (try (clear e10)); (try (clear e11)); omega)
  have hf : SmpF l[k] k := (good_x hgl hh hkl).2.1
  have hid : l[k].id = sm := by rw [hf.id, hk]
  have hk' : Hd _ := hk
  have hxw := hh l[k] (List.getElem_mem hkl)
  have hb := step_none (show stepR l kd sm am ho = none by rw [step_at h1 hk hkl, if_neg (by simp [ha]), if_neg (by simp [h2]), if_neg (by simp [h2])])
  subst h2
  rw [show stepL l 2 sm am ho = [] by simp [stepL, hb], hb]
  clear hb hgl hh hk hid hf hxw h1
  refine ACall.of (N := 140) tok Try.func74 rfl rfl rfl (by simp) ?_
  repeat' (first | with_reducible refine OutOK.done ?_ | refine thenQ_n ?_ | refine thenQ_r ?_ | refine thenQ_e ?_ | refine AW.seq ?_ | refine AW.dreg tok mixed [5]  [(0, false), (1, false), (2, false), (4, false), (3, false), (5, true), (6, false), (7, false), (8, false), (9, false)] (by decide +kernel) rfl (by simp [*]; rfl) ?_ | refine AW.dreg tok mixed [5]  [(0, false), (1, false), (2, false), (4, false), (3, false), (5, true), (6, false), (7, false), (8, false), (9, false)] (by decide +kernel) rfl (by simp [*]; rfl) ?_ | refine AW.dreg tok mixed [9, 11, 13, 15]  [(0, false), (1, false), (2, false), (3, false), (4, false), (6, false), (7, false), (8, false), (10, false), (12, false), (14, false), (5, false), (9, true), (11, true), (13, true), (15, true), (16, false), (17, false), (18, false), (19, false)] (by decide +kernel) rfl (by simp [*]; rfl) ?_ | refine AW.dreg tok mixed [8]  [(0, false), (1, false), (7, false), (2, false), (3, false), (4, false), (5, false), (6, false), (8, true), (9, false), (10, false), (11, false), (12, false)] (by decide +kernel) rfl (by simp [*]; rfl) ?_ | refine AW.dreg tok mixed [8]  [(0, false), (1, false), (7, false), (2, false), (3, false), (4, false), (5, false), (6, false), (8, true), (9, false), (10, false), (11, false), (12, false)] (by decide +kernel) rfl (by simp [*]; rfl) ?_ | refine AW.reg tok (by simp [*]; rfl) ?_ | refine AW.ifB (by simp [*]; rfl) ?_ | refine IfG.t ?_ | refine IfG.f ?_ | (refine IfG.p (fun hg => ?_) (fun hg => ?_) <;> (try (have hg' := hg; simp at hg'))) | (refine IfG.n (fun hg => ?_) (fun hg => ?_) <;> (try (have hg' := hg; simp at hg'))) | (refine OutOK.gateP (fun hg => ?_) (fun hg => ?_) <;> (try (have hg' := hg; simp at hg'))) | (refine OutOK.gateN (fun hg => ?_) (fun hg => ?_) <;> (try (have hg' := hg; simp at hg'))) | (refine IfG.g (fun hg => ?_) (fun hg => ?_) <;> (try (have hg' := hg; simp at hg'))) | (refine OutOK.gate (fun hg => ?_) (fun hg => ?_) <;> (try (have hg' := hg; simp at hg'))) | (refine OutOK.callF [] (by simp [*]; rfl) (by simp [*]; rfl) (by simp [*]; rfl) hb76 (by apply c_impl_within <;> first | assumption | exact Hd.out (by assumption) | ((try (clear e0)); (try (clear e1)); (try (clear e2)); (try (clear e3)); (try (clear e4)); (try (clear e5)); (try (clear e6)); (try (clear e7)); (try (clear e8)); (try (clear e9)); (try (clear e10)); (try (clear e11)); omega)) ⟨by simp [*], by simp [*], by simp [*], by simp [*], by simp [*]⟩ (by simp [*]) (by simp [*]; rfl) ?_) | (refine OutOK.callF [] (by simp [*]; rfl) (by simp [*]; rfl) (by simp [*]; rfl) hb73 (by apply cc <;> first | assumption | exact Hd.out (by assumption) | ((try (clear e0)); (try (clear e1)); (try (clear e2)); (try (clear e3)); (try (clear e4)); (try (clear e5)); (try (clear e6)); (try (clear e7)); (try (clear e8)); (try (clear e9)); (try (clear e10)); (try (clear e11)); omega)) ⟨by simp [*], by simp [*], by simp [*], by simp [*], by simp [*]⟩ (by simp [*]) (by simp [*]; rfl) ?_) | refine OutOK.run (by simp [*]; rfl) ?_ | refine AW.ret ?_ | refine AW.skip ?_ | refine AW.exit ?_ | refine fin_r ?_ | refine fin_n ?_ | refine AW.block ?_ | refine blockQ_n ?_ | refine blockQ_r ?_ | refine blockQ_e ?_ | refine blockQ_o rfl ?_)
  simp [Try.f74, smps]
theorem s_app_2 (l : List Smp) (kd sm am : Int) (ho : ByteArray) (hgl : goodS l = true) (hh : ∀ s ∈ l, SmpW s) (hho : ho.size ≤ 9223372036854775807) (h1 : ¬ kd = 1) (hR : inR 1 l.length sm = true) (k : Nat) (hkl : k < l.length) (hk : sm = ((k + 1 : Nat) : Int)) (h2 : kd = 2) (ha : am = 0) : ACall Try.prog 74 [.v (.sl true 8 (smps l)), stpD kd sm am ho] [.x, .x] [.v (.sl false 8 (smps (stepL l kd sm am ho))), boo (stepB l kd sm am ho)] := by
  obtain ⟨n1, hn1⟩ : ∃ n1, n1 = l.length + 1 := ⟨_, rfl⟩
  have h16 := (goodS_at hgl).1
  have e1 : wrap64 ((l.length : Int) + 1) = (n1 : Int) := by rw [w64 (by omega) (by omega)]; omega
  have b3 : (l.length + 1) * 72 ≤ 140737488355328 := by omega
  have b4 : l.length + 1 ≤ 4611686018427387904 := by omega
  have cc := c_slices_Clone_impl_Sample_impl_Sample l (by omega)
  have i0 : inR 0 500 0 = true := inR_iff.2 ⟨by omega, by omega⟩
  have hn1' : Hd _ := hn1
  clear hn1
  have e2 : wrap64 (sm - 1) = (k : Int) := by rw [w64 (by ((try (clear e0)); (try (clear e1)); (try (clear e2)); (try (clear e3)); (try (clear e4)); (try (clear e5)); (try (clear e6)); (try (clear e7)); (try (clear e8)); (try (clear e9)); (try (clear e10)); (try (clear e11)); omega)) (by ((try (clear e0)); (try (clear e1)); (try (clear e2)); (try (clear e3)); (try (clear e4)); (try (clear e5)); (try (clear e6)); (try (clear e7)); (try (clear e8)); (try (clear e9)); (try (clear e10)); (try (clear e11)); omega))]; ((try (clear e0)); (try (clear e1)); (try (clear e2)); (try (clear e3)); (try (clear e4)); (try (clear e5)); (try (clear e6)); (try (clear e7)); (try (clear e8)); (try (clear e9)); (try (clear e10)); (try (clear e11)); omega)
  have hf : SmpF l[k] k := (good_x hgl hh hkl).2.1
  have hid : l[k].id = sm := by rw [hf.id, hk]
  have hk' : Hd _ := hk
  have hxw := hh l[k] (List.getElem_mem hkl)
  obtain ⟨hb, hl⟩ := step_some (show stepR l kd sm am ho = _ by rw [step_at h1 hk hkl, if_pos ⟨h2, ha⟩])
  have hmw : ∀ s ∈ l.set k ⟨l[k].id, l[k].par, l[k].ctx, l[k].tak, l[k].lef, l[k].usd, l[k].giv, ho⟩, SmpW s := W_set hh ⟨hho, hxw.2⟩
  subst h2 ha
  have cv := c_impl_IsValidSamples _ (by simp; omega) hmw
  have hm : stepL l 2 sm 0 ho = if goodS (l.set k ⟨l[k].id, l[k].par, l[k].ctx, l[k].tak, l[k].lef, l[k].usd, l[k].giv, ho⟩) = true then l.set k ⟨l[k].id, l[k].par, l[k].ctx, l[k].tak, l[k].lef, l[k].usd, l[k].giv, ho⟩ else [] := by
    split
    · rename_i e; exact hl e
    · rename_i e; have : stepB l 2 sm 0 ho = false := by rw [hb]; simpa using e
      simp [stepL, this]
  rw [hm, hb]
  cases hgb : goodS (l.set k ⟨l[k].id, l[k].par, l[k].ctx, l[k].tak, l[k].lef, l[k].usd, l[k].giv, ho⟩) <;> rw [hgb] at cv
  · clear hm hb hl hgb hmw hgl hh hk hid hf hxw h1
    refine ACall.of (N := 140) tok Try.func74 rfl rfl rfl (by simp) ?_
    repeat' (first | with_reducible refine OutOK.done ?_ | refine thenQ_n ?_ | refine thenQ_r ?_ | refine thenQ_e ?_ | refine AW.seq ?_ | refine AW.dreg tok mixed [5]  [(0, false), (1, false), (2, false), (4, false), (3, false), (5, true), (6, false), (7, false), (8, false), (9, false)] (by decide +kernel) rfl (by simp (maxSteps := 3000000) [*]; rfl) ?_ | refine AW.dreg tok mixed [5]  [(0, false), (1, false), (2, false), (4, false), (3, false), (5, true), (6, false), (7, false), (8, false), (9, false)] (by decide +kernel) rfl (by simp (maxSteps := 3000000) [*]; rfl) ?_ | refine AW.dreg tok mixed [9, 11, 13, 15]  [(0, false), (1, false), (2, false), (3, false), (4, false), (6, false), (7, false), (8, false), (10, false), (12, false), (14, false), (5, false), (9, true), (11, true), (13, true), (15, true), (16, false), (17, false), (18, false), (19, false)] (by decide +kernel) rfl (by simp (maxSteps := 3000000) [*]; rfl) ?_ | refine AW.dreg tok mixed [8]  [(0, false), (1, false), (7, false), (2, false), (3, false), (4, false), (5, false), (6, false), (8, true), (9, false), (10, false), (11, false), (12, false)] (by decide +kernel) rfl (by simp (maxSteps := 3000000) [*]; rfl) ?_ | refine AW.dreg tok mixed [8]  [(0, false), (1, false), (7, false), (2, false), (3, false), (4, false), (5, false), (6, false), (8, true), (9, false), (10, false), (11, false), (12, false)] (by decide +kernel) rfl (by simp (maxSteps := 3000000) [*]; rfl) ?_ | refine AW.reg tok (by simp (maxSteps := 3000000) [*]; rfl) ?_ | refine AW.ifB (by simp (maxSteps := 3000000) [*]; rfl) ?_ | refine IfG.t ?_ | refine IfG.f ?_ | (refine IfG.p (fun hg => ?_) (fun hg => ?_) <;> (try (have hg' := hg; simp at hg'))) | (refine IfG.n (fun hg => ?_) (fun hg => ?_) <;> (try (have hg' := hg; simp at hg'))) | (refine OutOK.gateP (fun hg => ?_) (fun hg => ?_) <;> (try (have hg' := hg; simp at hg'))) | (refine OutOK.gateN (fun hg => ?_) (fun hg => ?_) <;> (try (have hg' := hg; simp at hg'))) | (refine IfG.g (fun hg => ?_) (fun hg => ?_) <;> (try (have hg' := hg; simp at hg'))) | (refine OutOK.gate (fun hg => ?_) (fun hg => ?_) <;> (try (have hg' := hg; simp at hg'))) | (refine OutOK.callF [] (by simp (maxSteps := 3000000) [*]; rfl) (by simp (maxSteps := 3000000) [*]; rfl) (by simp (maxSteps := 3000000) [*]; rfl) hb76 (by apply c_impl_within <;> first | assumption | exact Hd.out (by assumption) | ((try (clear e0)); (try (clear e1)); (try (clear e2)); (try (clear e3)); (try (clear e4)); (try (clear e5)); (try (clear e6)); (try (clear e7)); (try (clear e8)); (try (clear e9)); (try (clear e10)); (try (clear e11)); omega)) ⟨by simp (maxSteps := 3000000) [*], by simp (maxSteps := 3000000) [*], by simp (maxSteps := 3000000) [*], by simp (maxSteps := 3000000) [*], by simp (maxSteps := 3000000) [*]⟩ (by simp (maxSteps := 3000000) [*]) (by simp (maxSteps := 3000000) [*]; rfl) ?_) | (refine OutOK.callF [] (by simp (maxSteps := 3000000) [*]; rfl) (by simp (maxSteps := 3000000) [*]; rfl) (by simp (maxSteps := 3000000) [*]; rfl) hb73 (by apply cc <;> first | assumption | exact Hd.out (by assumption) | ((try (clear e0)); (try (clear e1)); (try (clear e2)); (try (clear e3)); (try (clear e4)); (try (clear e5)); (try (clear e6)); (try (clear e7)); (try (clear e8)); (try (clear e9)); (try (clear e10)); (try (clear e11)); omega)) ⟨by simp (maxSteps := 3000000) [*], by simp (maxSteps := 3000000) [*], by simp (maxSteps := 3000000) [*], by simp (maxSteps := 3000000) [*], by simp (maxSteps := 3000000) [*]⟩ (by simp (maxSteps := 3000000) [*]) (by simp (maxSteps := 3000000) [*]; rfl) ?_) | (refine OutOK.callF [] (by simp (maxSteps := 3000000) [*]; rfl) (by simp (maxSteps := 3000000) [*]; rfl) (by simp (maxSteps := 3000000) [*]; rfl) hb72 (by apply cv <;> first | assumption | exact Hd.out (by assumption) | ((try (clear e0)); (try (clear e1)); (try (clear e2)); (try (clear e3)); (try (clear e4)); (try (clear e5)); (try (clear e6)); (try (clear e7)); (try (clear e8)); (try (clear e9)); (try (clear e10)); (try (clear e11)); omega)) ⟨by simp (maxSteps := 3000000) [*], by simp (maxSteps := 3000000) [*], by simp (maxSteps := 3000000) [*], by simp (maxSteps := 3000000) [*], by simp (maxSteps := 3000000) [*]⟩ (by simp (maxSteps := 3000000) [*]) (by simp (maxSteps := 3000000) [*]; rfl) ?_) | refine OutOK.run (by simp (maxSteps := 3000000) [*]; rfl) ?_ | refine AW.ret ?_ | refine AW.skip ?_ | refine AW.exit ?_ | refine fin_r ?_ | refine fin_n ?_ | refine AW.block ?_ | refine blockQ_n ?_ | refine blockQ_r ?_ | refine blockQ_e ?_ | refine blockQ_o rfl ?_)
    simp [Try.f74, smps]
  · clear hm hb hl hgb hmw hgl hh hk hid hf hxw h1
    refine ACall.of (N := 140) tok Try.func74 rfl rfl rfl (by simp) ?_
    repeat' (first | with_reducible refine OutOK.done ?_ | refine thenQ_n ?_ | refine thenQ_r ?_ | refine thenQ_e ?_ | refine AW.seq ?_ | refine AW.dreg tok mixed [5]  [(0, false), (1, false), (2, false), (4, false), (3, false), (5, true), (6, false), (7, false), (8, false), (9, false)] (by decide +kernel) rfl (by simp (maxSteps := 3000000) [*]; rfl) ?_ | refine AW.dreg tok mixed [5]  [(0, false), (1, false), (2, false), (4, false), (3, false), (5, true), (6, false), (7, false), (8, false), (9, false)] (by decide +kernel) rfl (by simp (maxSteps := 3000000) [*]; rfl) ?_ | refine AW.dreg tok mixed [9, 11, 13, 15]  [(0, false), (1, false), (2, false), (3, false), (4, false), (6, false), (7, false), (8, false), (10, false), (12, false), (14, false), (5, false), (9, true), (11, true), (13, true), (15, true), (16, false), (17, false), (18, false), (19, false)] (by decide +kernel) rfl (by simp (maxSteps := 3000000) [*]; rfl) ?_ | refine AW.dreg tok mixed [8]  [(0, false), (1, false), (7, false), (2, false), (3, false), (4, false), (5, false), (6, false), (8, true), (9, false), (10, false), (11, false), (12, false)] (by decide +kernel) rfl (by simp (maxSteps := 3000000) [*]; rfl) ?_ | refine AW.dreg tok mixed [8]  [(0, false), (1, false), (7, false), (2, false), (3, false), (4, false), (5, false), (6, false), (8, true), (9, false), (10, false), (11, false), (12, false)] (by decide +kernel) rfl (by simp (maxSteps := 3000000) [*]; rfl) ?_ | refine AW.reg tok (by simp (maxSteps := 3000000) [*]; rfl) ?_ | refine AW.ifB (by simp (maxSteps := 3000000) [*]; rfl) ?_ | refine IfG.t ?_ | refine IfG.f ?_ | (refine IfG.p (fun hg => ?_) (fun hg => ?_) <;> (try (have hg' := hg; simp at hg'))) | (refine IfG.n (fun hg => ?_) (fun hg => ?_) <;> (try (have hg' := hg; simp at hg'))) | (refine OutOK.gateP (fun hg => ?_) (fun hg => ?_) <;> (try (have hg' := hg; simp at hg'))) | (refine OutOK.gateN (fun hg => ?_) (fun hg => ?_) <;> (try (have hg' := hg; simp at hg'))) | (refine IfG.g (fun hg => ?_) (fun hg => ?_) <;> (try (have hg' := hg; simp at hg'))) | (refine OutOK.gate (fun hg => ?_) (fun hg => ?_) <;> (try (have hg' := hg; simp at hg'))) | (refine OutOK.callF [] (by simp (maxSteps := 3000000) [*]; rfl) (by simp (maxSteps := 3000000) [*]; rfl) (by simp (maxSteps := 3000000) [*]; rfl) hb76 (by apply c_impl_within <;> first | assumption | exact Hd.out (by assumption) | ((try (clear e0)); (try (clear e1)); (try (clear e2)); (try (clear e3)); (try (clear e4)); (try (clear e5)); (try (clear e6)); (try (clear e7)); (try (clear e8)); (try (clear e9)); (try (clear e10)); (try (clear e11)); omega)) ⟨by simp (maxSteps := 3000000) [*], by simp (maxSteps := 3000000) [*], by simp (maxSteps := 3000000) [*], by simp (maxSteps := 3000000) [*], by simp (maxSteps := 3000000) [*]⟩ (by simp (maxSteps := 3000000) [*]) (by simp (maxSteps := 3000000) [*]; rfl) ?_) | (refine OutOK.callF [] (by simp (maxSteps := 3000000) [*]; rfl) (by simp (maxSteps := 3000000) [*]; rfl) (by simp (maxSteps := 3000000) [*]; rfl) hb73 (by apply cc <;> first | assumption | exact Hd.out (by assumption) | ((try (clear e0)); (try (clear e1)); (try (clear e2)); (try (clear e3)); (try (clear e4)); (try (clear e5)); (try (clear e6)); (try (clear e7)); (try (clear e8)); (try (clear e9)); (try (clear e10)); (try (clear e11)); omega)) ⟨by simp (maxSteps := 3000000) [*], by simp (maxSteps := 3000000) [*], by simp (maxSteps := 3000000) [*], by simp (maxSteps := 3000000) [*], by simp (maxSteps := 3000000) [*]⟩ (by simp (maxSteps := 3000000) [*]) (by simp (maxSteps := 3000000) [*]; rfl) ?_) | (refine OutOK.callF [] (by simp (maxSteps := 3000000) [*]; rfl) (by simp (maxSteps := 3000000) [*]; rfl) (by simp (maxSteps := 3000000) [*]; rfl) hb72 (by apply cv <;> first | assumption | exact Hd.out (by assumption) | ((try (clear e0)); (try (clear e1)); (try (clear e2)); (try (clear e3)); (try (clear e4)); (try (clear e5)); (try (clear e6)); (try (clear e7)); (try (clear e8)); (try (clear e9)); (try (clear e10)); (try (clear e11)); omega)) ⟨by simp (maxSteps := 3000000) [*], by simp (maxSteps := 3000000) [*], by simp (maxSteps := 3000000) [*], by simp (maxSteps := 3000000) [*], by simp (maxSteps := 3000000) [*]⟩ (by simp (maxSteps := 3000000) [*]) (by simp (maxSteps := 3000000) [*]; rfl) ?_) | refine OutOK.run (by simp (maxSteps := 3000000) [*]; rfl) ?_ | refine AW.ret ?_ | refine AW.skip ?_ | refine AW.exit ?_ | refine fin_r ?_ | refine fin_n ?_ | refine AW.block ?_ | refine blockQ_n ?_ | refine blockQ_r ?_ | refine blockQ_e ?_ | refine blockQ_o rfl ?_)
    simp [Try.f74]
theorem s_app_3 (l : List Smp) (kd sm am : Int) (ho : ByteArray) (hgl : goodS l = true) (hh : ∀ s ∈ l, SmpW s) (hho : ho.size ≤ 9223372036854775807) (h1 : ¬ kd = 1) (hR : inR 1 l.length sm = true) (k : Nat) (hkl : k < l.length) (hk : sm = ((k + 1 : Nat) : Int)) (h2 : kd = 3) (ha : ¬ am = 0) (hA : inR 0 500 am = true) : ACall Try.prog 74 [.v (.sl true 8 (smps l)), stpD kd sm am ho] [.x, .x] [.v (.sl false 8 (smps (stepL l kd sm am ho))), boo (stepB l kd sm am ho)] := by
  obtain ⟨n1, hn1⟩ : ∃ n1, n1 = l.length + 1 := ⟨_, rfl⟩
  have h16 := (goodS_at hgl).1
  have e1 : wrap64 ((l.length : Int) + 1) = (n1 : Int) := by rw [w64 (by omega) (by omega)]; omega
  have b3 : (l.length + 1) * 72 ≤ 140737488355328 := by omega
  have b4 : l.length + 1 ≤ 4611686018427387904 := by omega
  have cc := c_slices_Clone_impl_Sample_impl_Sample l (by omega)
  have i0 : inR 0 500 0 = true := inR_iff.2 ⟨by omega, by omega⟩
  have hn1' : Hd _ := hn1
  clear hn1
  have e2 : wrap64 (sm - 1) = (k : Int) := by rw [w64 (by ((try (clear e0)); (try (clear e1)); (try (clear e2)); (try (clear e3)); (try (clear e4)); (try (clear e5)); (try (clear e6)); (try (clear e7)); (try (clear e8)); (try (clear e9)); (try (clear e10)); (try (clear e11)); omega)) (by ((try (clear e0)); (try (clear e1)); (try (clear e2)); (try (clear e3)); (try (clear e4)); (try (clear e5)); (try (clear e6)); (try (clear e7)); (try (clear e8)); (try (clear e9)); (try (clear e10)); (try (clear e11)); omega))]; ((try (clear e0)); (try (clear e1)); (try (clear e2)); (try (clear e3)); (try (clear e4)); (try (clear e5)); (try (clear e6)); (try (clear e7)); (try (clear e8)); (try (clear e9)); (try (clear e10)); (try (clear e11)); omega)
  have hf : SmpF l[k] k := (good_x hgl hh hkl).2.1
  have hid : l[k].id = sm := by rw [hf.id, hk]
  have hk' : Hd _ := hk
  have hxw := hh l[k] (List.getElem_mem hkl)
  subst h2
  obtain ⟨hb, hl⟩ := step_3 (ho := ho) (fun _ => hf) hk hkl hA ha
  rw [hid, ← hn1'.out] at hb hl
  have hmw : ∀ s ∈ l.set k ⟨sm, l[k].par, l[k].ctx, l[k].tak, wrap64 (l[k].lef - am), l[k].usd, wrap64 (l[k].giv + am), l[k].hol⟩ ++ [(⟨n1, sm, l[k].ctx, am, am, 0, 0, ho⟩ : Smp)], SmpW s := W_app (W_set hh ⟨hxw.1, w64_in _⟩) ⟨hho, by simp, by simp⟩
  have cv := c_impl_IsValidSamples _ (by simp; omega) hmw
  have hm : stepL l 3 sm am ho = if goodS (l.set k ⟨sm, l[k].par, l[k].ctx, l[k].tak, wrap64 (l[k].lef - am), l[k].usd, wrap64 (l[k].giv + am), l[k].hol⟩ ++ [(⟨n1, sm, l[k].ctx, am, am, 0, 0, ho⟩ : Smp)]) = true then l.set k ⟨sm, l[k].par, l[k].ctx, l[k].tak, wrap64 (l[k].lef - am), l[k].usd, wrap64 (l[k].giv + am), l[k].hol⟩ ++ [(⟨n1, sm, l[k].ctx, am, am, 0, 0, ho⟩ : Smp)] else [] := by
    split
    · rename_i e; exact hl e
    · rename_i e; have : stepB l 3 sm am ho = false := by rw [hb]; simpa using e
      simp [stepL, this]
  rw [hm, hb]
  cases hgb : goodS (l.set k ⟨sm, l[k].par, l[k].ctx, l[k].tak, wrap64 (l[k].lef - am), l[k].usd, wrap64 (l[k].giv + am), l[k].hol⟩ ++ [(⟨n1, sm, l[k].ctx, am, am, 0, 0, ho⟩ : Smp)]) <;> rw [hgb] at cv
  · clear hm hb hl hgb hmw hgl hh hk hf hxw h1
    refine ACall.of (N := 140) tok Try.func74 rfl rfl rfl (by simp) ?_
    repeat' (first | with_reducible refine OutOK.done ?_ | refine thenQ_n ?_ | refine thenQ_r ?_ | refine thenQ_e ?_ | refine AW.seq ?_ | refine AW.dreg tok mixed [5]  [(0, false), (1, false), (2, false), (4, false), (3, false), (5, true), (6, false), (7, false), (8, false), (9, false)] (by decide +kernel) rfl (by simp (maxSteps := 3000000) [*]; rfl) ?_ | refine AW.dreg tok mixed [5]  [(0, false), (1, false), (2, false), (4, false), (3, false), (5, true), (6, false), (7, false), (8, false), (9, false)] (by decide +kernel) rfl (by simp (maxSteps := 3000000) [*]; rfl) ?_ | refine AW.dreg tok mixed [9, 11, 13, 15]  [(0, false), (1, false), (2, false), (3, false), (4, false), (6, false), (7, false), (8, false), (10, false), (12, false), (14, false), (5, false), (9, true), (11, true), (13, true), (15, true), (16, false), (17, false), (18, false), (19, false)] (by decide +kernel) rfl (by simp (maxSteps := 3000000) [*]; rfl) ?_ | refine AW.dreg tok mixed [8]  [(0, false), (1, false), (7, false), (2, false), (3, false), (4, false), (5, false), (6, false), (8, true), (9, false), (10, false), (11, false), (12, false)] (by decide +kernel) rfl (by simp (maxSteps := 3000000) [*]; rfl) ?_ | refine AW.dreg tok mixed [8]  [(0, false), (1, false), (7, false), (2, false), (3, false), (4, false), (5, false), (6, false), (8, true), (9, false), (10, false), (11, false), (12, false)] (by decide +kernel) rfl (by simp (maxSteps := 3000000) [*]; rfl) ?_ | refine AW.reg tok (by simp (maxSteps := 3000000) [*]; rfl) ?_ | refine AW.ifB (by simp (maxSteps := 3000000) [*]; rfl) ?_ | refine IfG.t ?_ | refine IfG.f ?_ | (refine IfG.p (fun hg => ?_) (fun hg => ?_) <;> (try (have hg' := hg; simp at hg'))) | (refine IfG.n (fun hg => ?_) (fun hg => ?_) <;> (try (have hg' := hg; simp at hg'))) | (refine OutOK.gateP (fun hg => ?_) (fun hg => ?_) <;> (try (have hg' := hg; simp at hg'))) | (refine OutOK.gateN (fun hg => ?_) (fun hg => ?_) <;> (try (have hg' := hg; simp at hg'))) | (refine IfG.g (fun hg => ?_) (fun hg => ?_) <;> (try (have hg' := hg; simp at hg'))) | (refine OutOK.gate (fun hg => ?_) (fun hg => ?_) <;> (try (have hg' := hg; simp at hg'))) | (refine OutOK.callF [] (by simp (maxSteps := 3000000) [*]; rfl) (by simp (maxSteps := 3000000) [*]; rfl) (by simp (maxSteps := 3000000) [*]; rfl) hb76 (by apply c_impl_within <;> first | assumption | exact Hd.out (by assumption) | ((try (clear e0)); (try (clear e1)); (try (clear e2)); (try (clear e3)); (try (clear e4)); (try (clear e5)); (try (clear e6)); (try (clear e7)); (try (clear e8)); (try (clear e9)); (try (clear e10)); (try (clear e11)); omega)) ⟨by simp (maxSteps := 3000000) [*], by simp (maxSteps := 3000000) [*], by simp (maxSteps := 3000000) [*], by simp (maxSteps := 3000000) [*], by simp (maxSteps := 3000000) [*]⟩ (by simp (maxSteps := 3000000) [*]) (by simp (maxSteps := 3000000) [*]; rfl) ?_) | (refine OutOK.callF [] (by simp (maxSteps := 3000000) [*]; rfl) (by simp (maxSteps := 3000000) [*]; rfl) (by simp (maxSteps := 3000000) [*]; rfl) hb73 (by apply cc <;> first | assumption | exact Hd.out (by assumption) | ((try (clear e0)); (try (clear e1)); (try (clear e2)); (try (clear e3)); (try (clear e4)); (try (clear e5)); (try (clear e6)); (try (clear e7)); (try (clear e8)); (try (clear e9)); (try (clear e10)); (try (clear e11)); omega)) ⟨by simp (maxSteps := 3000000) [*], by simp (maxSteps := 3000000) [*], by simp (maxSteps := 3000000) [*], by simp (maxSteps := 3000000) [*], by simp (maxSteps := 3000000) [*]⟩ (by simp (maxSteps := 3000000) [*]) (by simp (maxSteps := 3000000) [*]; rfl) ?_) | (refine OutOK.callF [] (by simp (maxSteps := 3000000) [*]; rfl) (by simp (maxSteps := 3000000) [*]; rfl) (by simp (maxSteps := 3000000) [*]; rfl) hb72 (by apply cv <;> first | assumption | exact Hd.out (by assumption) | ((try (clear e0)); (try (clear e1)); (try (clear e2)); (try (clear e3)); (try (clear e4)); (try (clear e5)); (try (clear e6)); (try (clear e7)); (try (clear e8)); (try (clear e9)); (try (clear e10)); (try (clear e11)); omega)) ⟨by simp (maxSteps := 3000000) [*], by simp (maxSteps := 3000000) [*], by simp (maxSteps := 3000000) [*], by simp (maxSteps := 3000000) [*], by simp (maxSteps := 3000000) [*]⟩ (by simp (maxSteps := 3000000) [*]) (by simp (maxSteps := 3000000) [*]; rfl) ?_) | refine OutOK.run (by simp (maxSteps := 3000000) [*]; rfl) ?_ | refine AW.ret ?_ | refine AW.skip ?_ | refine AW.exit ?_ | refine fin_r ?_ | refine fin_n ?_ | refine AW.block ?_ | refine blockQ_n ?_ | refine blockQ_r ?_ | refine blockQ_e ?_ | refine blockQ_o rfl ?_)
    simp [Try.f74, smps]
  · clear hm hb hl hgb hmw hgl hh hk hf hxw h1
    refine ACall.of (N := 140) tok Try.func74 rfl rfl rfl (by simp) ?_
    repeat' (first | with_reducible refine OutOK.done ?_ | refine thenQ_n ?_ | refine thenQ_r ?_ | refine thenQ_e ?_ | refine AW.seq ?_ | refine AW.dreg tok mixed [5]  [(0, false), (1, false), (2, false), (4, false), (3, false), (5, true), (6, false), (7, false), (8, false), (9, false)] (by decide +kernel) rfl (by simp (maxSteps := 3000000) [*]; rfl) ?_ | refine AW.dreg tok mixed [5]  [(0, false), (1, false), (2, false), (4, false), (3, false), (5, true), (6, false), (7, false), (8, false), (9, false)] (by decide +kernel) rfl (by simp (maxSteps := 3000000) [*]; rfl) ?_ | refine AW.dreg tok mixed [9, 11, 13, 15]  [(0, false), (1, false), (2, false), (3, false), (4, false), (6, false), (7, false), (8, false), (10, false), (12, false), (14, false), (5, false), (9, true), (11, true), (13, true), (15, true), (16, false), (17, false), (18, false), (19, false)] (by decide +kernel) rfl (by simp (maxSteps := 3000000) [*]; rfl) ?_ | refine AW.dreg tok mixed [8]  [(0, false), (1, false), (7, false), (2, false), (3, false), (4, false), (5, false), (6, false), (8, true), (9, false), (10, false), (11, false), (12, false)] (by decide +kernel) rfl (by simp (maxSteps := 3000000) [*]; rfl) ?_ | refine AW.dreg tok mixed [8]  [(0, false), (1, false), (7, false), (2, false), (3, false), (4, false), (5, false), (6, false), (8, true), (9, false), (10, false), (11, false), (12, false)] (by decide +kernel) rfl (by simp (maxSteps := 3000000) [*]; rfl) ?_ | refine AW.reg tok (by simp (maxSteps := 3000000) [*]; rfl) ?_ | refine AW.ifB (by simp (maxSteps := 3000000) [*]; rfl) ?_ | refine IfG.t ?_ | refine IfG.f ?_ | (refine IfG.p (fun hg => ?_) (fun hg => ?_) <;> (try (have hg' := hg; simp at hg'))) | (refine IfG.n (fun hg => ?_) (fun hg => ?_) <;> (try (have hg' := hg; simp at hg'))) | (refine OutOK.gateP (fun hg => ?_) (fun hg => ?_) <;> (try (have hg' := hg; simp at hg'))) | (refine OutOK.gateN (fun hg => ?_) (fun hg => ?_) <;> (try (have hg' := hg; simp at hg'))) | (refine IfG.g (fun hg => ?_) (fun hg => ?_) <;> (try (have hg' := hg; simp at hg'))) | (refine OutOK.gate (fun hg => ?_) (fun hg => ?_) <;> (try (have hg' := hg; simp at hg'))) | (refine OutOK.callF [] (by simp (maxSteps := 3000000) [*]; rfl) (by simp (maxSteps := 3000000) [*]; rfl) (by simp (maxSteps := 3000000) [*]; rfl) hb76 (by apply c_impl_within <;> first | assumption | exact Hd.out (by assumption) | ((try (clear e0)); (try (clear e1)); (try (clear e2)); (try (clear e3)); (try (clear e4)); (try (clear e5)); (try (clear e6)); (try (clear e7)); (try (clear e8)); (try (clear e9)); (try (clear e10)); (try (clear e11)); omega)) ⟨by simp (maxSteps := 3000000) [*], by simp (maxSteps := 3000000) [*], by simp (maxSteps := 3000000) [*], by simp (maxSteps := 3000000) [*], by simp (maxSteps := 3000000) [*]⟩ (by simp (maxSteps := 3000000) [*]) (by simp (maxSteps := 3000000) [*]; rfl) ?_) | (refine OutOK.callF [] (by simp (maxSteps := 3000000) [*]; rfl) (by simp (maxSteps := 3000000) [*]; rfl) (by simp (maxSteps := 3000000) [*]; rfl) hb73 (by apply cc <;> first | assumption | exact Hd.out (by assumption) | ((try (clear e0)); (try (clear e1)); (try (clear e2)); (try (clear e3)); (try (clear e4)); (try (clear e5)); (try (clear e6)); (try (clear e7)); (try (clear e8)); (try (clear e9)); (try (clear e10)); (try (clear e11)); omega)) ⟨by simp (maxSteps := 3000000) [*], by simp (maxSteps := 3000000) [*], by simp (maxSteps := 3000000) [*], by simp (maxSteps := 3000000) [*], by simp (maxSteps := 3000000) [*]⟩ (by simp (maxSteps := 3000000) [*]) (by simp (maxSteps := 3000000) [*]; rfl) ?_) | (refine OutOK.callF [] (by simp (maxSteps := 3000000) [*]; rfl) (by simp (maxSteps := 3000000) [*]; rfl) (by simp (maxSteps := 3000000) [*]; rfl) hb72 (by apply cv <;> first | assumption | exact Hd.out (by assumption) | ((try (clear e0)); (try (clear e1)); (try (clear e2)); (try (clear e3)); (try (clear e4)); (try (clear e5)); (try (clear e6)); (try (clear e7)); (try (clear e8)); (try (clear e9)); (try (clear e10)); (try (clear e11)); omega)) ⟨by simp (maxSteps := 3000000) [*], by simp (maxSteps := 3000000) [*], by simp (maxSteps := 3000000) [*], by simp (maxSteps := 3000000) [*], by simp (maxSteps := 3000000) [*]⟩ (by simp (maxSteps := 3000000) [*]) (by simp (maxSteps := 3000000) [*]; rfl) ?_) | refine OutOK.run (by simp (maxSteps := 3000000) [*]; rfl) ?_ | refine AW.ret ?_ | refine AW.skip ?_ | refine AW.exit ?_ | refine fin_r ?_ | refine fin_n ?_ | refine AW.block ?_ | refine blockQ_n ?_ | refine blockQ_r ?_ | refine blockQ_e ?_ | refine blockQ_o rfl ?_)
    simp [Try.f74]
theorem s_app_4 (l : List Smp) (kd sm am : Int) (ho : ByteArray) (hgl : goodS l = true) (hh : ∀ s ∈ l, SmpW s) (hho : ho.size ≤ 9223372036854775807) (h1 : ¬ kd = 1) (hR : inR 1 l.length sm = true) (k : Nat) (hkl : k < l.length) (hk : sm = ((k + 1 : Nat) : Int)) (h2 : kd = 4) (ha : ¬ am = 0) (hA : inR 0 500 am = true) (h5 : ho.toList = []) : ACall Try.prog 74 [.v (.sl true 8 (smps l)), stpD kd sm am ho] [.x, .x] [.v (.sl false 8 (smps (stepL l kd sm am ho))), boo (stepB l kd sm am ho)] := by
  obtain ⟨n1, hn1⟩ : ∃ n1, n1 = l.length + 1 := ⟨_, rfl⟩
  have h16 := (goodS_at hgl).1
  have e1 : wrap64 ((l.length : Int) + 1) = (n1 : Int) := by rw [w64 (by omega) (by omega)]; omega
  have b3 : (l.length + 1) * 72 ≤ 140737488355328 := by omega
  have b4 : l.length + 1 ≤ 4611686018427387904 := by omega
  have cc := c_slices_Clone_impl_Sample_impl_Sample l (by omega)
  have i0 : inR 0 500 0 = true := inR_iff.2 ⟨by omega, by omega⟩
  have hn1' : Hd _ := hn1
  clear hn1
  have e2 : wrap64 (sm - 1) = (k : Int) := by rw [w64 (by ((try (clear e0)); (try (clear e1)); (try (clear e2)); (try (clear e3)); (try (clear e4)); (try (clear e5)); (try (clear e6)); (try (clear e7)); (try (clear e8)); (try (clear e9)); (try (clear e10)); (try (clear e11)); omega)) (by ((try (clear e0)); (try (clear e1)); (try (clear e2)); (try (clear e3)); (try (clear e4)); (try (clear e5)); (try (clear e6)); (try (clear e7)); (try (clear e8)); (try (clear e9)); (try (clear e10)); (try (clear e11)); omega))]; ((try (clear e0)); (try (clear e1)); (try (clear e2)); (try (clear e3)); (try (clear e4)); (try (clear e5)); (try (clear e6)); (try (clear e7)); (try (clear e8)); (try (clear e9)); (try (clear e10)); (try (clear e11)); omega)
  have hf : SmpF l[k] k := (good_x hgl hh hkl).2.1
  have hid : l[k].id = sm := by rw [hf.id, hk]
  have hk' : Hd _ := hk
  have hxw := hh l[k] (List.getElem_mem hkl)
  subst h2
  obtain ⟨hb, hl⟩ := step_4 (fun _ => hf) hk hkl hA ha h5
  have hmw : ∀ s ∈ l.set k ⟨l[k].id, l[k].par, l[k].ctx, l[k].tak, wrap64 (l[k].lef - am), wrap64 (l[k].usd + am), l[k].giv, l[k].hol⟩, SmpW s := W_set hh ⟨hxw.1, hxw.2⟩
  have cv := c_impl_IsValidSamples _ (by simp; omega) hmw
  have hm : stepL l 4 sm am ho = if goodS (l.set k ⟨l[k].id, l[k].par, l[k].ctx, l[k].tak, wrap64 (l[k].lef - am), wrap64 (l[k].usd + am), l[k].giv, l[k].hol⟩) = true then l.set k ⟨l[k].id, l[k].par, l[k].ctx, l[k].tak, wrap64 (l[k].lef - am), wrap64 (l[k].usd + am), l[k].giv, l[k].hol⟩ else [] := by
    split
    · rename_i e; exact hl e
    · rename_i e; have : stepB l 4 sm am ho = false := by rw [hb]; simpa using e
      simp [stepL, this]
  rw [hm, hb]
  cases hgb : goodS (l.set k ⟨l[k].id, l[k].par, l[k].ctx, l[k].tak, wrap64 (l[k].lef - am), wrap64 (l[k].usd + am), l[k].giv, l[k].hol⟩) <;> rw [hgb] at cv
  · clear hm hb hl hgb hmw hgl hh hk hid hf hxw h1
    refine ACall.of (N := 140) tok Try.func74 rfl rfl rfl (by simp) ?_
    repeat' (first | with_reducible refine OutOK.done ?_ | refine thenQ_n ?_ | refine thenQ_r ?_ | refine thenQ_e ?_ | refine AW.seq ?_ | refine AW.dreg tok mixed [5]  [(0, false), (1, false), (2, false), (4, false), (3, false), (5, true), (6, false), (7, false), (8, false), (9, false)] (by decide +kernel) rfl (by simp (maxSteps := 3000000) [*]; rfl) ?_ | refine AW.dreg tok mixed [5]  [(0, false), (1, false), (2, false), (4, false), (3, false), (5, true), (6, false), (7, false), (8, false), (9, false)] (by decide +kernel) rfl (by simp (maxSteps := 3000000) [*]; rfl) ?_ | refine AW.dreg tok mixed [9, 11, 13, 15]  [(0, false), (1, false), (2, false), (3, false), (4, false), (6, false), (7, false), (8, false), (10, false), (12, false), (14, false), (5, false), (9, true), (11, true), (13, true), (15, true), (16, false), (17, false), (18, false), (19, false)] (by decide +kernel) rfl (by simp (maxSteps := 3000000) [*]; rfl) ?_ | refine AW.dreg tok mixed [8]  [(0, false), (1, false), (7, false), (2, false), (3, false), (4, false), (5, false), (6, false), (8, true), (9, false), (10, false), (11, false), (12, false)] (by decide +kernel) rfl (by simp (maxSteps := 3000000) [*]; rfl) ?_ | refine AW.dreg tok mixed [8]  [(0, false), (1, false), (7, false), (2, false), (3, false), (4, false), (5, false), (6, false), (8, true), (9, false), (10, false), (11, false), (12, false)] (by decide +kernel) rfl (by simp (maxSteps := 3000000) [*]; rfl) ?_ | refine AW.reg tok (by simp (maxSteps := 3000000) [*]; rfl) ?_ | refine AW.ifB (by simp (maxSteps := 3000000) [*]; rfl) ?_ | refine IfG.t ?_ | refine IfG.f ?_ | (refine IfG.p (fun hg => ?_) (fun hg => ?_) <;> (try (have hg' := hg; simp at hg'))) | (refine IfG.n (fun hg => ?_) (fun hg => ?_) <;> (try (have hg' := hg; simp at hg'))) | (refine OutOK.gateP (fun hg => ?_) (fun hg => ?_) <;> (try (have hg' := hg; simp at hg'))) | (refine OutOK.gateN (fun hg => ?_) (fun hg => ?_) <;> (try (have hg' := hg; simp at hg'))) | (refine IfG.g (fun hg => ?_) (fun hg => ?_) <;> (try (have hg' := hg; simp at hg'))) | (refine OutOK.gate (fun hg => ?_) (fun hg => ?_) <;> (try (have hg' := hg; simp at hg'))) | (refine OutOK.callF [] (by simp (maxSteps := 3000000) [*]; rfl) (by simp (maxSteps := 3000000) [*]; rfl) (by simp (maxSteps := 3000000) [*]; rfl) hb76 (by apply c_impl_within <;> first | assumption | exact Hd.out (by assumption) | ((try (clear e0)); (try (clear e1)); (try (clear e2)); (try (clear e3)); (try (clear e4)); (try (clear e5)); (try (clear e6)); (try (clear e7)); (try (clear e8)); (try (clear e9)); (try (clear e10)); (try (clear e11)); omega)) ⟨by simp (maxSteps := 3000000) [*], by simp (maxSteps := 3000000) [*], by simp (maxSteps := 3000000) [*], by simp (maxSteps := 3000000) [*], by simp (maxSteps := 3000000) [*]⟩ (by simp (maxSteps := 3000000) [*]) (by simp (maxSteps := 3000000) [*]; rfl) ?_) | (refine OutOK.callF [] (by simp (maxSteps := 3000000) [*]; rfl) (by simp (maxSteps := 3000000) [*]; rfl) (by simp (maxSteps := 3000000) [*]; rfl) hb73 (by apply cc <;> first | assumption | exact Hd.out (by assumption) | ((try (clear e0)); (try (clear e1)); (try (clear e2)); (try (clear e3)); (try (clear e4)); (try (clear e5)); (try (clear e6)); (try (clear e7)); (try (clear e8)); (try (clear e9)); (try (clear e10)); (try (clear e11)); omega)) ⟨by simp (maxSteps := 3000000) [*], by simp (maxSteps := 3000000) [*], by simp (maxSteps := 3000000) [*], by simp (maxSteps := 3000000) [*], by simp (maxSteps := 3000000) [*]⟩ (by simp (maxSteps := 3000000) [*]) (by simp (maxSteps := 3000000) [*]; rfl) ?_) | (refine OutOK.callF [] (by simp (maxSteps := 3000000) [*]; rfl) (by simp (maxSteps := 3000000) [*]; rfl) (by simp (maxSteps := 3000000) [*]; rfl) hb72 (by apply cv <;> first | assumption | exact Hd.out (by assumption) | ((try (clear e0)); (try (clear e1)); (try (clear e2)); (try (clear e3)); (try (clear e4)); (try (clear e5)); (try (clear e6)); (try (clear e7)); (try (clear e8)); (try (clear e9)); (try (clear e10)); (try (clear e11)); omega)) ⟨by simp (maxSteps := 3000000) [*], by simp (maxSteps := 3000000) [*], by simp (maxSteps := 3000000) [*], by simp (maxSteps := 3000000) [*], by simp (maxSteps := 3000000) [*]⟩ (by simp (maxSteps := 3000000) [*]) (by simp (maxSteps := 3000000) [*]; rfl) ?_) | refine OutOK.run (by simp (maxSteps := 3000000) [*]; rfl) ?_ | refine AW.ret ?_ | refine AW.skip ?_ | refine AW.exit ?_ | refine fin_r ?_ | refine fin_n ?_ | refine AW.block ?_ | refine blockQ_n ?_ | refine blockQ_r ?_ | refine blockQ_e ?_ | refine blockQ_o rfl ?_)
    simp [Try.f74, smps]
  · clear hm hb hl hgb hmw hgl hh hk hid hf hxw h1
    refine ACall.of (N := 140) tok Try.func74 rfl rfl rfl (by simp) ?_
    repeat' (first | with_reducible refine OutOK.done ?_ | refine thenQ_n ?_ | refine thenQ_r ?_ | refine thenQ_e ?_ | refine AW.seq ?_ | refine AW.dreg tok mixed [5]  [(0, false), (1, false), (2, false), (4, false), (3, false), (5, true), (6, false), (7, false), (8, false), (9, false)] (by decide +kernel) rfl (by simp (maxSteps := 3000000) [*]; rfl) ?_ | refine AW.dreg tok mixed [5]  [(0, false), (1, false), (2, false), (4, false), (3, false), (5, true), (6, false), (7, false), (8, false), (9, false)] (by decide +kernel) rfl (by simp (maxSteps := 3000000) [*]; rfl) ?_ | refine AW.dreg tok mixed [9, 11, 13, 15]  [(0, false), (1, false), (2, false), (3, false), (4, false), (6, false), (7, false), (8, false), (10, false), (12, false), (14, false), (5, false), (9, true), (11, true), (13, true), (15, true), (16, false), (17, false), (18, false), (19, false)] (by decide +kernel) rfl (by simp (maxSteps := 3000000) [*]; rfl) ?_ | refine AW.dreg tok mixed [8]  [(0, false), (1, false), (7, false), (2, false), (3, false), (4, false), (5, false), (6, false), (8, true), (9, false), (10, false), (11, false), (12, false)] (by decide +kernel) rfl (by simp (maxSteps := 3000000) [*]; rfl) ?_ | refine AW.dreg tok mixed [8]  [(0, false), (1, false), (7, false), (2, false), (3, false), (4, false), (5, false), (6, false), (8, true), (9, false), (10, false), (11, false), (12, false)] (by decide +kernel) rfl (by simp (maxSteps := 3000000) [*]; rfl) ?_ | refine AW.reg tok (by simp (maxSteps := 3000000) [*]; rfl) ?_ | refine AW.ifB (by simp (maxSteps := 3000000) [*]; rfl) ?_ | refine IfG.t ?_ | refine IfG.f ?_ | (refine IfG.p (fun hg => ?_) (fun hg => ?_) <;> (try (have hg' := hg; simp at hg'))) | (refine IfG.n (fun hg => ?_) (fun hg => ?_) <;> (try (have hg' := hg; simp at hg'))) | (refine OutOK.gateP (fun hg => ?_) (fun hg => ?_) <;> (try (have hg' := hg; simp at hg'))) | (refine OutOK.gateN (fun hg => ?_) (fun hg => ?_) <;> (try (have hg' := hg; simp at hg'))) | (refine IfG.g (fun hg => ?_) (fun hg => ?_) <;> (try (have hg' := hg; simp at hg'))) | (refine OutOK.gate (fun hg => ?_) (fun hg => ?_) <;> (try (have hg' := hg; simp at hg'))) | (refine OutOK.callF [] (by simp (maxSteps := 3000000) [*]; rfl) (by simp (maxSteps := 3000000) [*]; rfl) (by simp (maxSteps := 3000000) [*]; rfl) hb76 (by apply c_impl_within <;> first | assumption | exact Hd.out (by assumption) | ((try (clear e0)); (try (clear e1)); (try (clear e2)); (try (clear e3)); (try (clear e4)); (try (clear e5)); (try (clear e6)); (try (clear e7)); (try (clear e8)); (try (clear e9)); (try (clear e10)); (try (clear e11)); omega)) ⟨by simp (maxSteps := 3000000) [*], by simp (maxSteps := 3000000) [*], by simp (maxSteps := 3000000) [*], by simp (maxSteps := 3000000) [*], by simp (maxSteps := 3000000) [*]⟩ (by simp (maxSteps := 3000000) [*]) (by simp (maxSteps := 3000000) [*]; rfl) ?_) | (refine OutOK.callF [] (by simp (maxSteps := 3000000) [*]; rfl) (by simp (maxSteps := 3000000) [*]; rfl) (by simp (maxSteps := 3000000) [*]; rfl) hb73 (by apply cc <;> first | assumption | exact Hd.out (by assumption) | ((try (clear e0)); (try (clear e1)); (try (clear e2)); (try (clear e3)); (try (clear e4)); (try (clear e5)); (try (clear e6)); (try (clear e7)); (try (clear e8)); (try (clear e9)); (try (clear e10)); (try (clear e11)); omega)) ⟨by simp (maxSteps := 3000000) [*], by simp (maxSteps := 3000000) [*], by simp (maxSteps := 3000000) [*], by simp (maxSteps := 3000000) [*], by simp (maxSteps := 3000000) [*]⟩ (by simp (maxSteps := 3000000) [*]) (by simp (maxSteps := 3000000) [*]; rfl) ?_) | (refine OutOK.callF [] (by simp (maxSteps := 3000000) [*]; rfl) (by simp (maxSteps := 3000000) [*]; rfl) (by simp (maxSteps := 3000000) [*]; rfl) hb72 (by apply cv <;> first | assumption | exact Hd.out (by assumption) | ((try (clear e0)); (try (clear e1)); (try (clear e2)); (try (clear e3)); (try (clear e4)); (try (clear e5)); (try (clear e6)); (try (clear e7)); (try (clear e8)); (try (clear e9)); (try (clear e10)); (try (clear e11)); omega)) ⟨by simp (maxSteps := 3000000) [*], by simp (maxSteps := 3000000) [*], by simp (maxSteps := 3000000) [*], by simp (maxSteps := 3000000) [*], by simp (maxSteps := 3000000) [*]⟩ (by simp (maxSteps := 3000000) [*]) (by simp (maxSteps := 3000000) [*]; rfl) ?_) | refine OutOK.run (by simp (maxSteps := 3000000) [*]; rfl) ?_ | refine AW.ret ?_ | refine AW.skip ?_ | refine AW.exit ?_ | refine fin_r ?_ | refine fin_n ?_ | refine AW.block ?_ | refine blockQ_n ?_ | refine blockQ_r ?_ | refine blockQ_e ?_ | refine blockQ_o rfl ?_)
    simp [Try.f74]
theorem s_app_4n (l : List Smp) (kd sm am : Int) (ho : ByteArray) (hgl : goodS l = true) (hh : ∀ s ∈ l, SmpW s) (hho : ho.size ≤ 9223372036854775807) (h1 : ¬ kd = 1) (hR : inR 1 l.length sm = true) (k : Nat) (hkl : k < l.length) (hk : sm = ((k + 1 : Nat) : Int)) (h2 : kd = 4) (ha : ¬ am = 0) (hA : inR 0 500 am = true) (h5 : ¬ ho.toList = []) : ACall Try.prog 74 [.v (.sl true 8 (smps l)), stpD kd sm am ho] [.x, .x] [.v (.sl false 8 (smps (stepL l kd sm am ho))), boo (stepB l kd sm am ho)] := by
  obtain ⟨n1, hn1⟩ : ∃ n1, n1 = l.length + 1 := ⟨_, rfl⟩
  have h16 := (goodS_at hgl).1
  have e1 : wrap64 ((l.length : Int) + 1) = (n1 : Int) := by rw [w64 (by omega) (by omega)]; omega
  have b3 : (l.length + 1) * 72 ≤ 140737488355328 := by omega
  have b4 : l.length + 1 ≤ 4611686018427387904 := by omega
  have cc := c_slices_Clone_impl_Sample_impl_Sample l (by omega)
  have i0 : inR 0 500 0 = true := inR_iff.2 ⟨by omega, by omega⟩
  have hn1' : Hd _ := hn1
  clear hn1
  have e2 : wrap64 (sm - 1) = (k : Int) := by rw [w64 (by ((try (clear e0)); (try (clear e1)); (try (clear e2)); (try (clear e3)); (try (clear e4)); (try (clear e5)); (try (clear e6)); (try (clear e7)); (try (clear e8)); (try (clear e9)); (try (clear e10)); (try (clear e11)); omega)) (by ((try (clear e0)); (try (clear e1)); (try (clear e2)); (try (clear e3)); (try (clear e4)); (try (clear e5)); (try (clear e6)); (try (clear e7)); (try (clear e8)); (try (clear e9)); (try (clear e10)); (try (clear e11)); omega))]; ((try (clear e0)); (try (clear e1)); (try (clear e2)); (try (clear e3)); (try (clear e4)); (try (clear e5)); (try (clear e6)); (try (clear e7)); (try (clear e8)); (try (clear e9)); (try (clear e10)); (try (clear e11)); omega)
  have hf : SmpF l[k] k := (good_x hgl hh hkl).2.1
  have hid : l[k].id = sm := by rw [hf.id, hk]
  have hk' : Hd _ := hk
  have hxw := hh l[k] (List.getElem_mem hkl)
  have hb := step_none (show stepR l kd sm am ho = none by rw [step_at h1 hk hkl, if_neg (by simp [h2]), if_neg (by simp [h2]), if_neg (by simp [h5])])
  subst h2
  rw [show stepL l 4 sm am ho = [] by simp [stepL, hb], hb]
  clear hb hgl hh hk hid hf hxw h1
  refine ACall.of (N := 140) tok Try.func74 rfl rfl rfl (by simp) ?_
  repeat' (first | with_reducible refine OutOK.done ?_ | refine thenQ_n ?_ | refine thenQ_r ?_ | refine thenQ_e ?_ | refine AW.seq ?_ | refine AW.dreg tok mixed [5]  [(0, false), (1, false), (2, false), (4, false), (3, false), (5, true), (6, false), (7, false), (8, false), (9, false)] (by decide +kernel) rfl (by simp [*]; rfl) ?_ | refine AW.dreg tok mixed [5]  [(0, false), (1, false), (2, false), (4, false), (3, false), (5, true), (6, false), (7, false), (8, false), (9, false)] (by decide +kernel) rfl (by simp [*]; rfl) ?_ | refine AW.dreg tok mixed [9, 11, 13, 15]  [(0, false), (1, false), (2, false), (3, false), (4, false), (6, false), (7, false), (8, false), (10, false), (12, false), (14, false), (5, false), (9, true), (11, true), (13, true), (15, true), (16, false), (17, false), (18, false), (19, false)] (by decide +kernel) rfl (by simp [*]; rfl) ?_ | refine AW.dreg tok mixed [8]  [(0, false), (1, false), (7, false), (2, false), (3, false), (4, false), (5, false), (6, false), (8, true), (9, false), (10, false), (11, false), (12, false)] (by decide +kernel) rfl (by simp [*]; rfl) ?_ | refine AW.dreg tok mixed [8]  [(0, false), (1, false), (7, false), (2, false), (3, false), (4, false), (5, false), (6, false), (8, true), (9, false), (10, false), (11, false), (12, false)] (by decide +kernel) rfl (by simp [*]; rfl) ?_ | refine AW.reg tok (by simp [*]; rfl) ?_ | refine AW.ifB (by simp [*]; rfl) ?_ | refine IfG.t ?_ | refine IfG.f ?_ | (refine IfG.p (fun hg => ?_) (fun hg => ?_) <;> (try (have hg' := hg; simp at hg'))) | (refine IfG.n (fun hg => ?_) (fun hg => ?_) <;> (try (have hg' := hg; simp at hg'))) | (refine OutOK.gateP (fun hg => ?_) (fun hg => ?_) <;> (try (have hg' := hg; simp at hg'))) | (refine OutOK.gateN (fun hg => ?_) (fun hg => ?_) <;> (try (have hg' := hg; simp at hg'))) | (refine IfG.g (fun hg => ?_) (fun hg => ?_) <;> (try (have hg' := hg; simp at hg'))) | (refine OutOK.gate (fun hg => ?_) (fun hg => ?_) <;> (try (have hg' := hg; simp at hg'))) | (refine OutOK.callF [] (by simp [*]; rfl) (by simp [*]; rfl) (by simp [*]; rfl) hb76 (by apply c_impl_within <;> first | assumption | exact Hd.out (by assumption) | ((try (clear e0)); (try (clear e1)); (try (clear e2)); (try (clear e3)); (try (clear e4)); (try (clear e5)); (try (clear e6)); (try (clear e7)); (try (clear e8)); (try (clear e9)); (try (clear e10)); (try (clear e11)); omega)) ⟨by simp [*], by simp [*], by simp [*], by simp [*], by simp [*]⟩ (by simp [*]) (by simp [*]; rfl) ?_) | (refine OutOK.callF [] (by simp [*]; rfl) (by simp [*]; rfl) (by simp [*]; rfl) hb73 (by apply cc <;> first | assumption | exact Hd.out (by assumption) | ((try (clear e0)); (try (clear e1)); (try (clear e2)); (try (clear e3)); (try (clear e4)); (try (clear e5)); (try (clear e6)); (try (clear e7)); (try (clear e8)); (try (clear e9)); (try (clear e10)); (try (clear e11)); omega)) ⟨by simp [*], by simp [*], by simp [*], by simp [*], by simp [*]⟩ (by simp [*]) (by simp [*]; rfl) ?_) | refine OutOK.run (by simp [*]; rfl) ?_ | refine AW.ret ?_ | refine AW.skip ?_ | refine AW.exit ?_ | refine fin_r ?_ | refine fin_n ?_ | refine AW.block ?_ | refine blockQ_n ?_ | refine blockQ_r ?_ | refine blockQ_e ?_ | refine blockQ_o rfl ?_)
  simp [Try.f74, smps]
theorem s_app_n (l : List Smp) (kd sm am : Int) (ho : ByteArray) (hgl : goodS l = true) (hh : ∀ s ∈ l, SmpW s) (hho : ho.size ≤ 9223372036854775807) (h1 : ¬ kd = 1) (hR : inR 1 l.length sm = true) (k : Nat) (hkl : k < l.length) (hk : sm = ((k + 1 : Nat) : Int)) (h2 : ¬ kd = 2) (h3 : ¬ kd = 3) (h4 : ¬ kd = 4) (ha : ¬ am = 0) (hA : inR 0 500 am = true) : ACall Try.prog 74 [.v (.sl true 8 (smps l)), stpD kd sm am ho] [.x, .x] [.v (.sl false 8 (smps (stepL l kd sm am ho))), boo (stepB l kd sm am ho)] := by
  obtain ⟨n1, hn1⟩ : ∃ n1, n1 = l.length + 1 := ⟨_, rfl⟩
  have h16 := (goodS_at hgl).1
  have e1 : wrap64 ((l.length : Int) + 1) = (n1 : Int) := by rw [w64 (by omega) (by omega)]; omega
  have b3 : (l.length + 1) * 72 ≤ 140737488355328 := by omega
  have b4 : l.length + 1 ≤ 4611686018427387904 := by omega
  have cc := c_slices_Clone_impl_Sample_impl_Sample l (by omega)
  have i0 : inR 0 500 0 = true := inR_iff.2 ⟨by omega, by omega⟩
  have hn1' : Hd _ := hn1
  clear hn1
  have e2 : wrap64 (sm - 1) = (k : Int) := by rw [w64 (by ((try (clear e0)); (try (clear e1)); (try (clear e2)); (try (clear e3)); (try (clear e4)); (try (clear e5)); (try (clear e6)); (try (clear e7)); (try (clear e8)); (try (clear e9)); (try (clear e10)); (try (clear e11)); omega)) (by ((try (clear e0)); (try (clear e1)); (try (clear e2)); (try (clear e3)); (try (clear e4)); (try (clear e5)); (try (clear e6)); (try (clear e7)); (try (clear e8)); (try (clear e9)); (try (clear e10)); (try (clear e11)); omega))]; ((try (clear e0)); (try (clear e1)); (try (clear e2)); (try (clear e3)); (try (clear e4)); (try (clear e5)); (try (clear e6)); (try (clear e7)); (try (clear e8)); (try (clear e9)); (try (clear e10)); (try (clear e11)); omega)
  have hf : SmpF l[k] k := (good_x hgl hh hkl).2.1
  have hid : l[k].id = sm := by rw [hf.id, hk]
  have hk' : Hd _ := hk
  have hxw := hh l[k] (List.getElem_mem hkl)
  have hb := step_none (show stepR l kd sm am ho = none by rw [step_at h1 hk hkl, if_neg (by simp [h2]), if_neg (by simp [h3]), if_neg (by simp [h4])])
  rw [show stepL l kd sm am ho = [] by simp [stepL, hb], hb]
  clear hb hgl hh hk hid hf hxw
  refine ACall.of (N := 140) tok Try.func74 rfl rfl rfl (by simp) ?_
  repeat' (first | with_reducible refine OutOK.done ?_ | refine thenQ_n ?_ | refine thenQ_r ?_ | refine thenQ_e ?_ | refine AW.seq ?_ | refine AW.dreg tok mixed [5]  [(0, false), (1, false), (2, false), (4, false), (3, false), (5, true), (6, false), (7, false), (8, false), (9, false)] (by decide +kernel) rfl (by simp [*]; rfl) ?_ | refine AW.dreg tok mixed [5]  [(0, false), (1, false), (2, false), (4, false), (3, false), (5, true), (6, false), (7, false), (8, false), (9, false)] (by decide +kernel) rfl (by simp [*]; rfl) ?_ | refine AW.dreg tok mixed [9, 11, 13, 15]  [(0, false), (1, false), (2, false), (3, false), (4, false), (6, false), (7, false), (8, false), (10, false), (12, false), (14, false), (5, false), (9, true), (11, true), (13, true), (15, true), (16, false), (17, false), (18, false), (19, false)] (by decide +kernel) rfl (by simp [*]; rfl) ?_ | refine AW.dreg tok mixed [8]  [(0, false), (1, false), (7, false), (2, false), (3, false), (4, false), (5, false), (6, false), (8, true), (9, false), (10, false), (11, false), (12, false)] (by decide +kernel) rfl (by simp [*]; rfl) ?_ | refine AW.dreg tok mixed [8]  [(0, false), (1, false), (7, false), (2, false), (3, false), (4, false), (5, false), (6, false), (8, true), (9, false), (10, false), (11, false), (12, false)] (by decide +kernel) rfl (by simp [*]; rfl) ?_ | refine AW.reg tok (by simp [*]; rfl) ?_ | refine AW.ifB (by simp [*]; rfl) ?_ | refine IfG.t ?_ | refine IfG.f ?_ | (refine IfG.p (fun hg => ?_) (fun hg => ?_) <;> (try (have hg' := hg; simp at hg'))) | (refine IfG.n (fun hg => ?_) (fun hg => ?_) <;> (try (have hg' := hg; simp at hg'))) | (refine OutOK.gateP (fun hg => ?_) (fun hg => ?_) <;> (try (have hg' := hg; simp at hg'))) | (refine OutOK.gateN (fun hg => ?_) (fun hg => ?_) <;> (try (have hg' := hg; simp at hg'))) | (refine IfG.g (fun hg => ?_) (fun hg => ?_) <;> (try (have hg' := hg; simp at hg'))) | (refine OutOK.gate (fun hg => ?_) (fun hg => ?_) <;> (try (have hg' := hg; simp at hg'))) | (refine OutOK.callF [] (by simp [*]; rfl) (by simp [*]; rfl) (by simp [*]; rfl) hb76 (by apply c_impl_within <;> first | assumption | exact Hd.out (by assumption) | ((try (clear e0)); (try (clear e1)); (try (clear e2)); (try (clear e3)); (try (clear e4)); (try (clear e5)); (try (clear e6)); (try (clear e7)); (try (clear e8)); (try (clear e9)); (try (clear e10)); (try (clear e11)); omega)) ⟨by simp [*], by simp [*], by simp [*], by simp [*], by simp [*]⟩ (by simp [*]) (by simp [*]; rfl) ?_) | (refine OutOK.callF [] (by simp [*]; rfl) (by simp [*]; rfl) (by simp [*]; rfl) hb73 (by apply cc <;> first | assumption | exact Hd.out (by assumption) | ((try (clear e0)); (try (clear e1)); (try (clear e2)); (try (clear e3)); (try (clear e4)); (try (clear e5)); (try (clear e6)); (try (clear e7)); (try (clear e8)); (try (clear e9)); (try (clear e10)); (try (clear e11)); omega)) ⟨by simp [*], by simp [*], by simp [*], by simp [*], by simp [*]⟩ (by simp [*]) (by simp [*]; rfl) ?_) | refine OutOK.run (by simp [*]; rfl) ?_ | refine AW.ret ?_ | refine AW.skip ?_ | refine AW.exit ?_ | refine fin_r ?_ | refine fin_n ?_ | refine AW.block ?_ | refine blockQ_n ?_ | refine blockQ_r ?_ | refine blockQ_e ?_ | refine blockQ_o rfl ?_)
  simp [Try.f74, smps]
theorem c_impl_apply (l : List Smp) (kd sm am : Int) (ho : ByteArray) (hgl : goodS l = true) (hh : ∀ s ∈ l, SmpW s) (hho : ho.size ≤ 9223372036854775807) : ACall Try.prog 74 [.v (.sl true 8 (smps l)), stpD kd sm am ho] [.x, .x] [.v (.sl false 8 (smps (stepL l kd sm am ho))), boo (stepB l kd sm am ho)] := by
  by_cases h1 : kd = 1
  · cases hA : inR 1 500 am with
    | false => exact s_app_1n l kd sm am ho hgl hh hho h1 hA
    | true => exact s_app_1 l kd sm am ho hgl hh hho h1 hA
  cases hR : inR 1 l.length sm with
  | false => exact s_app_R l kd sm am ho hgl hh hho h1 hR
  | true =>
    have hr := inR_iff.1 hR
    obtain ⟨k, hk⟩ : ∃ k : Nat, sm = ((k + 1 : Nat) : Int) := ⟨(sm - 1).toNat, by omega⟩
    have hkl : k < l.length := by omega
    by_cases h2 : kd = 2
    · by_cases ha : am = 0
      · exact s_app_2 l kd sm am ho hgl hh hho h1 hR k hkl hk h2 ha
      · exact s_app_2n l kd sm am ho hgl hh hho h1 hR k hkl hk h2 ha
    by_cases ha : am = 0
    · exact s_app_z l kd sm am ho hgl hh hho h1 hR k hkl hk h2 (.inr ha)
    cases hA : inR 0 500 am with
    | false => exact s_app_z l kd sm am ho hgl hh hho h1 hR k hkl hk h2 (.inl hA)
    | true =>
      by_cases h3 : kd = 3
      · exact s_app_3 l kd sm am ho hgl hh hho h1 hR k hkl hk h3 ha hA
      by_cases h4 : kd = 4
      · by_cases h5 : ho.toList = []
        · exact s_app_4 l kd sm am ho hgl hh hho h1 hR k hkl hk h4 ha hA h5
        · exact s_app_4n l kd sm am ho hgl hh hho h1 hR k hkl hk h4 ha hA h5
      · exact s_app_n l kd sm am ho hgl hh hho h1 hR k hkl hk h2 h3 h4 ha hA
end Go.Proofs.Ytodombkmnnggeaa.EngS


set_option linter.unusedSimpArgs false
set_option linter.unusedVariables false
set_option maxHeartbeats 4000000
set_option maxRecDepth 100000
namespace Go.Proofs.Ytodombkmnnggeaa.EngS
open Go Go.Proofs Go.Eng Go.RowKit
attribute [local irreducible] Go.RowKit.wrap64
def sumN (f : Nat → Int) : Nat → Int
  | 0 => 0
  | n + 1 => sumN f n + f n
theorem sumN_in {f : Nat → Int} {b : Int} : ∀ {n : Nat}, (∀ i < n, 0 ≤ f i ∧ f i ≤ b) → 0 ≤ sumN f n ∧ sumN f n ≤ b * n
  | 0, _ => by simp [sumN]
  | n + 1, h => by
    have h1 := sumN_in (n := n) (fun i hi => h i (by omega))
    have h2 := h n (by omega)
    simp only [sumN]
    have : b * ((n + 1 : Nat) : Int) = b * n + b := by rw [Int.natCast_add, Int.mul_add]; simp
    omega
def sumS (f : Smp → Int) (l : List Smp) (n : Nat) : Int := sumN (fun i => f (l[i]?.getD default)) n
structure Facts (l : List Smp) : Prop where
  len : l.length ≤ 16
  f : ∀ (k : Nat) (hk : k < l.length), SmpF l[k] k
  g : ∀ (k : Nat) (hk : k < l.length), l[k].giv = givI l l[k].id l.length
theorem Facts.in {l : List Smp} (h : Facts l) {f : Smp → Int} (hf : ∀ s k, SmpF s k → 0 ≤ f s ∧ f s ≤ 500) {n : Nat} (hn : n ≤ l.length) : 0 ≤ sumS f l n ∧ sumS f l n ≤ 8000 := by
  have := sumN_in (f := fun i => f (l[i]?.getD default)) (b := 500) (n := n) (fun i hi => by
    have hi' : i < l.length := by omega
    simp only [List.getElem?_eq_getElem hi', Option.getD_some]
    exact hf _ _ (h.f i hi'))
  have h2 := h.len
  unfold sumS
  omega
theorem step_W {l m : List Smp} {kd sm am : Int} {ho : ByteArray} (hw : ∀ s ∈ l, SmpW s) (hho : ho.size ≤ 9223372036854775807) (hs : stepR l kd sm am ho = some m) : (∀ s ∈ m, SmpW s) ∧ m.length ≤ l.length + 1 := by
  by_cases h1 : kd = 1
  · simp only [stepR, if_pos h1, Option.some.injEq] at hs
    subst hs
    exact ⟨W_app hw ⟨hho, by simp, by simp⟩, by simp⟩
  · cases hR : inR 1 l.length sm with
    | false => simp [stepR, h1, hR] at hs
    | true =>
      have hr := inR_iff.1 hR
      obtain ⟨k, hk⟩ : ∃ k : Nat, sm = ((k + 1 : Nat) : Int) := ⟨(sm - 1).toNat, by omega⟩
      have hkl : k < l.length := by omega
      have hxw := hw l[k] (List.getElem_mem hkl)
      rw [step_at h1 hk hkl] at hs
      by_cases c2 : kd = 2 ∧ am = 0
      · rw [if_pos c2, Option.some.injEq] at hs
        subst hs
        exact ⟨W_set hw ⟨hho, hxw.2⟩, by simp⟩
      rw [if_neg c2] at hs
      by_cases c3 : kd = 3 ∧ inR 1 l[k].lef am = true
      · rw [if_pos c3, Option.some.injEq] at hs
        subst hs
        exact ⟨W_app (W_set hw ⟨hxw.1, w64_in _⟩) ⟨hho, by simp, by simp⟩, by simp⟩
      rw [if_neg c3] at hs
      by_cases c4 : kd = 4 ∧ inR 1 l[k].lef am = true ∧ ho.toList = []
      · rw [if_pos c4, Option.some.injEq] at hs
        subst hs
        exact ⟨W_set hw hxw, by simp⟩
      · rw [if_neg c4] at hs; cases hs
theorem step_ok {l : List Smp} {kd sm am : Int} {ho : ByteArray} (h : stepB l kd sm am ho = true) : stepR l kd sm am ho = some (stepL l kd sm am ho) ∧ goodS (stepL l kd sm am ho) = true := by
  have h0 := h
  simp only [stepB] at h
  cases hs : stepR l kd sm am ho with
  | none => rw [hs] at h; cases h
  | some m =>
    rw [hs] at h
    obtain ⟨_, h2⟩ := step_some hs
    rw [h2 h]; exact ⟨rfl, h⟩
end Go.Proofs.Ytodombkmnnggeaa.EngS


set_option linter.unusedSimpArgs false
set_option linter.unusedVariables false
set_option maxHeartbeats 4000000
set_option maxRecDepth 100000
namespace Go.Proofs.Ytodombkmnnggeaa.EngS
open Go Go.Proofs Go.Eng Go.RowKit
attribute [local irreducible] Go.RowKit.wrap64
end Go.Proofs.Ytodombkmnnggeaa.EngS


set_option linter.unusedSimpArgs false
set_option linter.unusedVariables false
set_option maxHeartbeats 4000000
set_option maxRecDepth 100000
namespace Go.Proofs.Ytodombkmnnggeaa.EngS
open Go Go.Proofs Go.Eng Go.RowKit
attribute [local irreducible] Go.RowKit.wrap64
structure Stp where
  kd : Int
  sm : Int
  am : Int
  hol : ByteArray
  deriving Inhabited
def stpC (s : Stp) : List PV := [.sc (.int .i64 s.kd), .sc (.int .i64 s.sm), .sc (.int .i64 s.am), .sc (.string s.hol)]
@[simp] theorem stpC_eq (s : Stp) : stpC s = [.sc (.int .i64 s.kd), .sc (.int .i64 s.sm), .sc (.int .i64 s.am), .sc (.string s.hol)] := rfl
instance stpFlat : Flat stpC where
  frz _ := rfl
  ok _ := rfl
  nofz _ := rfl
  fl _ := rfl
  inj x y h := by cases x; cases y; simpa using h
abbrev stps (l : List Stp) : List PV := els stpC l
@[simp] theorem stps_set (l : List Stp) (i : Nat) (a b c : Int) (h : ByteArray) : (stps l).set i (.ag [.sc (.int .i64 a), .sc (.int .i64 b), .sc (.int .i64 c), .sc (.string h)]) = stps (l.set i ⟨a, b, c, h⟩) := by
  simp [stps, els, List.map_set]
@[simp] theorem stps_snoc (l : List Stp) (a b c : Int) (h : ByteArray) : stps l ++ [.ag [.sc (.int .i64 a), .sc (.int .i64 b), .sc (.int .i64 c), .sc (.string h)]] = stps (l ++ [⟨a, b, c, h⟩]) := by
  simp [stps, els]
def stB (l : List Smp) (s : Stp) : Bool := stepB l s.kd s.sm s.am s.hol
def stL (l : List Smp) (s : Stp) : List Smp := stepL l s.kd s.sm s.am s.hol
def runL : List Smp → List Stp → List Smp × Nat
  | l, [] => (l, 0)
  | l, s :: ss => if stB l s = true then ((runL (stL l s) ss).1, (runL (stL l s) ss).2 + 1) else (l, 0)
theorem runL_yes {l : List Smp} {xs : List Stp} {i : Nat} (h : i < xs.length) (hb : stB l xs[i] = true) : runL l (xs.drop i) = ((runL (stL l xs[i]) (xs.drop (i + 1))).1, (runL (stL l xs[i]) (xs.drop (i + 1))).2 + 1) := by
  rw [List.drop_eq_getElem_cons h, runL, if_pos hb]
theorem runL_no {l : List Smp} {xs : List Stp} {i : Nat} (h : i < xs.length) (hb : stB l xs[i] = false) : runL l (xs.drop i) = (l, 0) := by
  rw [List.drop_eq_getElem_cons h, runL, if_neg (by simp [hb])]
theorem runL_end {l : List Smp} {xs : List Stp} {i : Nat} (h : xs.length ≤ i) : runL l (xs.drop i) = (l, 0) := by
  rw [List.drop_eq_nil_of_le h, runL]
def stpW (s : Stp) : Prop := s.hol.size ≤ 9223372036854775807
theorem stB_ok {l : List Smp} {s : Stp} (hw : ∀ x ∈ l, SmpW x) (hs : stpW s) (h : stB l s = true) : goodS (stL l s) = true ∧ (∀ x ∈ stL l s, SmpW x) := by
  obtain ⟨h1, h2⟩ := step_ok h
  exact ⟨h2, (step_W hw hs h1).1⟩
def runB (l : List Smp) (xs : List Stp) : Bool := goodS l && decide (xs.length ≤ 30)
def runM (l : List Smp) (xs : List Stp) : List Smp := if runB l xs = true then (runL l xs).1 else []
def runN (l : List Smp) (xs : List Stp) : Nat := if runB l xs = true then (runL l xs).2 else 0
theorem run_good {xs : List Stp} : ∀ {l : List Smp}, goodS l = true → (∀ x ∈ l, SmpW x) → (∀ s ∈ xs, stpW s) → goodS (runL l xs).1 = true ∧ (∀ x ∈ (runL l xs).1, SmpW x) ∧ (runL l xs).2 ≤ xs.length := by
  induction xs with
  | nil => intro l h1 h2 _; exact ⟨h1, h2, Nat.le_refl _⟩
  | cons s ss ih =>
    intro l h1 h2 h3
    rw [runL]
    split
    · rename_i hb
      obtain ⟨k1, k2⟩ := stB_ok h2 (h3 s (by simp)) hb
      obtain ⟨i1, i2, i3⟩ := ih k1 k2 (fun x hx => h3 x (by simp [hx]))
      exact ⟨i1, i2, by simp only [List.length_cons]; omega⟩
    · exact ⟨h1, h2, Nat.zero_le _⟩
end Go.Proofs.Ytodombkmnnggeaa.EngS


set_option linter.unusedSimpArgs false
set_option linter.unusedVariables false
set_option maxHeartbeats 4000000
set_option maxRecDepth 100000
namespace Go.Proofs.Ytodombkmnnggeaa.EngS
open Go Go.Proofs Go.Eng Go.RowKit
attribute [local irreducible] Go.RowKit.wrap64
theorem c_impl_RunSteps (l : List Smp) (xs : List Stp) (h : l.length ≤ 1000000000) (hx : xs.length ≤ 1000000000) (hh : ∀ s ∈ l, SmpW s) (hs : ∀ s ∈ xs, stpW s) :
    ACall Try.prog 17 [.v (.sl true 8 (smps l)), .v (.sl true 4 (stps xs))] [.x, .x] [.v (.sl false 8 (smps (runM l xs))), int (runN l xs), boo (runB l xs)] := by
  have cv := c_impl_IsValidSamples l (by omega) hh
  cases hB : runB l xs with
  | false =>
    rw [show runM l xs = [] by simp [runM, hB], show runN l xs = 0 by simp [runN, hB]]
    cases hg : goodS l with
    | false =>
      rw [hg] at cv
      clear hB hg hh hs
      refine ACall.of (N := 44) tok Try.func17 rfl rfl rfl (by simp) ?_
      repeat' (first | with_reducible refine OutOK.done ?_ | refine thenQ_n ?_ | refine thenQ_r ?_ | refine thenQ_e ?_ | refine AW.seq ?_ | refine AW.reg tok (by simp [*]; rfl) ?_ | refine AW.ifB (by simp [*]; rfl) ?_ | refine IfG.t ?_ | refine IfG.f ?_ | (refine IfG.p (fun hg => ?_) (fun hg => ?_) <;> (try (have hg' := hg; simp at hg'))) | (refine IfG.n (fun hg => ?_) (fun hg => ?_) <;> (try (have hg' := hg; simp at hg'))) | (refine OutOK.gateP (fun hg => ?_) (fun hg => ?_) <;> (try (have hg' := hg; simp at hg'))) | (refine OutOK.gateN (fun hg => ?_) (fun hg => ?_) <;> (try (have hg' := hg; simp at hg'))) | (refine IfG.g (fun hg => ?_) (fun hg => ?_) <;> (try (have hg' := hg; simp at hg'))) | (refine OutOK.gate (fun hg => ?_) (fun hg => ?_) <;> (try (have hg' := hg; simp at hg'))) | (refine OutOK.callF [] (by simp [*]; rfl) (by simp [*]; rfl) (by simp [*]; rfl) hb72 (by apply cv <;> first | assumption | exact Hd.out (by assumption) | ((try (clear e0)); (try (clear e1)); (try (clear e2)); (try (clear e3)); (try (clear e4)); (try (clear e5)); (try (clear e6)); (try (clear e7)); (try (clear e8)); (try (clear e9)); (try (clear e10)); (try (clear e11)); omega)) ⟨by simp [*], by simp [*], by simp [*], by simp [*], by simp [*]⟩ (by simp [*]) (by simp [*]; rfl) ?_) | refine OutOK.run (by simp [*]; rfl) ?_ | refine AW.ret ?_ | refine AW.skip ?_ | refine AW.exit ?_ | refine fin_r ?_ | refine fin_n ?_ | refine AW.block ?_ | refine blockQ_n ?_ | refine blockQ_r ?_ | refine blockQ_e ?_ | refine blockQ_o rfl ?_)
      simp [Try.f17, smps]
    | true =>
      rw [hg] at cv
      have h30 : (30 : Int) < xs.length := by simp [runB, hg] at hB; omega
      clear hB hg hh hs
      refine ACall.of (N := 44) tok Try.func17 rfl rfl rfl (by simp) ?_
      repeat' (first | with_reducible refine OutOK.done ?_ | refine thenQ_n ?_ | refine thenQ_r ?_ | refine thenQ_e ?_ | refine AW.seq ?_ | refine AW.reg tok (by simp [*]; rfl) ?_ | refine AW.ifB (by simp [*]; rfl) ?_ | refine IfG.t ?_ | refine IfG.f ?_ | (refine IfG.p (fun hg => ?_) (fun hg => ?_) <;> (try (have hg' := hg; simp at hg'))) | (refine IfG.n (fun hg => ?_) (fun hg => ?_) <;> (try (have hg' := hg; simp at hg'))) | (refine OutOK.gateP (fun hg => ?_) (fun hg => ?_) <;> (try (have hg' := hg; simp at hg'))) | (refine OutOK.gateN (fun hg => ?_) (fun hg => ?_) <;> (try (have hg' := hg; simp at hg'))) | (refine IfG.g (fun hg => ?_) (fun hg => ?_) <;> (try (have hg' := hg; simp at hg'))) | (refine OutOK.gate (fun hg => ?_) (fun hg => ?_) <;> (try (have hg' := hg; simp at hg'))) | (refine OutOK.callF [] (by simp [*]; rfl) (by simp [*]; rfl) (by simp [*]; rfl) hb72 (by apply cv <;> first | assumption | exact Hd.out (by assumption) | ((try (clear e0)); (try (clear e1)); (try (clear e2)); (try (clear e3)); (try (clear e4)); (try (clear e5)); (try (clear e6)); (try (clear e7)); (try (clear e8)); (try (clear e9)); (try (clear e10)); (try (clear e11)); omega)) ⟨by simp [*], by simp [*], by simp [*], by simp [*], by simp [*]⟩ (by simp [*]) (by simp [*]; rfl) ?_) | refine OutOK.run (by simp [*]; rfl) ?_ | refine AW.ret ?_ | refine AW.skip ?_ | refine AW.exit ?_ | refine fin_r ?_ | refine fin_n ?_ | refine AW.block ?_ | refine blockQ_n ?_ | refine blockQ_r ?_ | refine blockQ_e ?_ | refine blockQ_o rfl ?_)
      simp [Try.f17, smps]
  | true =>
    have hB' := hB
    simp only [runB, Bool.and_eq_true, decide_eq_true_eq] at hB'
    obtain ⟨hg, h30⟩ := hB'
    rw [hg] at cv
    have hM : runM l xs = (runL l xs).1 := by simp [runM, hB]
    have hN : runN l xs = (runL l xs).2 := by simp [runN, hB]
    rw [hM, hN]
    have h16 := (goodS_at hg).1
    have cc := c_slices_Clone_impl_Sample_impl_Sample l (by omega)
    have h30' : ¬ (30 : Int) < xs.length := by omega
    obtain ⟨R, hR⟩ : ∃ R, runL l xs = R := ⟨_, rfl⟩
    rw [hR]
    have hR0 : Hd (R = ((runL l (xs.drop 0)).1, 0 + (runL l (xs.drop 0)).2)) := by simp [Hd, ← hR]
    have hs' : Hd (∀ s ∈ xs, stpW s) := hs
    have hg' : Hd (goodS l = true) := hg
    have hh' : Hd (∀ s ∈ l, SmpW s) := hh
    clear hB hM hN hR hg hh hs
    refine ACall.of (N := 44) tok Try.func17 rfl rfl rfl (by simp) ?_
    repeat' (first | with_reducible refine OutOK.done ?_ | refine thenQ_n ?_ | refine thenQ_r ?_ | refine thenQ_e ?_ | refine AW.seq ?_ | refine AW.reg tok (by simp [*]; rfl) ?_ | refine AW.ifB (by simp [*]; rfl) ?_ | refine IfG.t ?_ | refine IfG.f ?_ | (refine IfG.p (fun hg => ?_) (fun hg => ?_) <;> (try (have hg' := hg; simp at hg'))) | (refine IfG.n (fun hg => ?_) (fun hg => ?_) <;> (try (have hg' := hg; simp at hg'))) | (refine OutOK.gateP (fun hg => ?_) (fun hg => ?_) <;> (try (have hg' := hg; simp at hg'))) | (refine OutOK.gateN (fun hg => ?_) (fun hg => ?_) <;> (try (have hg' := hg; simp at hg'))) | (refine IfG.g (fun hg => ?_) (fun hg => ?_) <;> (try (have hg' := hg; simp at hg'))) | (refine OutOK.gate (fun hg => ?_) (fun hg => ?_) <;> (try (have hg' := hg; simp at hg'))) | (refine OutOK.callF [] (by simp [*]; rfl) (by simp [*]; rfl) (by simp [*]; rfl) hb72 (by apply cv <;> first | assumption | exact Hd.out (by assumption) | ((try (clear e0)); (try (clear e1)); (try (clear e2)); (try (clear e3)); (try (clear e4)); (try (clear e5)); (try (clear e6)); (try (clear e7)); (try (clear e8)); (try (clear e9)); (try (clear e10)); (try (clear e11)); omega)) ⟨by simp [*], by simp [*], by simp [*], by simp [*], by simp [*]⟩ (by simp [*]) (by simp [*]; rfl) ?_) | (refine OutOK.callF [] (by simp [*]; rfl) (by simp [*]; rfl) (by simp [*]; rfl) hb73 (by apply cc <;> first | assumption | exact Hd.out (by assumption) | ((try (clear e0)); (try (clear e1)); (try (clear e2)); (try (clear e3)); (try (clear e4)); (try (clear e5)); (try (clear e6)); (try (clear e7)); (try (clear e8)); (try (clear e9)); (try (clear e10)); (try (clear e11)); omega)) ⟨by simp [*], by simp [*], by simp [*], by simp [*], by simp [*]⟩ (by simp [*]) (by simp [*]; rfl) ?_) | refine OutOK.run (by simp [*]; rfl) ?_ | refine AW.ret ?_ | refine AW.skip ?_ | refine AW.exit ?_ | refine fin_r ?_ | refine fin_n ?_ | refine AW.block ?_ | refine blockQ_n ?_ | refine blockQ_r ?_ | refine blockQ_e ?_ | refine blockQ_o rfl ?_)
    refine AW.loopS (α := Nat × List Smp) (fun q => q.1 ≤ xs.length ∧ Hd (goodS q.2 = true) ∧ Hd (∀ s ∈ q.2, SmpW s) ∧ Hd (R = ((runL q.2 (xs.drop q.1)).1, q.1 + (runL q.2 (xs.drop q.1)).2))) (fun q => [(1, .c (.sl true 4 (stps xs))), (7, .rf 21000 []), (22, .c (.sl true 4 (stps xs))), (23, .c (.sc (.int .i64 (xs.length : Int)))), (24, .c (.sc (.int .i64 (q.1 : Int))))])
      (fun q => [(21000, .sv (.sl false 8 (smps q.2)))]) (fun q => xs.length - q.1) (0, l) ⟨Nat.zero_le _, hg', hh', hR0⟩ [] (by simp) ⟨by simp, by simp, by simp⟩ ?_
    rintro ⟨i, m⟩ ⟨hi, hg2, hh2, hR2⟩
    simp only at hi hg2 hh2 hR2
    clear cv cc hR0 hg' hh'
    rcases Nat.lt_or_ge i xs.length with hl | hl
    · have e1 : wrap64 ((i : Int) + 1) = ((i + 1 : Nat) : Int) := by rw [w64 (by ((try (clear e0)); (try (clear e1)); (try (clear e2)); (try (clear e3)); (try (clear e4)); (try (clear e5)); (try (clear e6)); (try (clear e7)); (try (clear e8)); (try (clear e9)); (try (clear e10)); (try (clear e11)); omega)) (by ((try (clear e0)); (try (clear e1)); (try (clear e2)); (try (clear e3)); (try (clear e4)); (try (clear e5)); (try (clear e6)); (try (clear e7)); (try (clear e8)); (try (clear e9)); (try (clear e10)); (try (clear e11)); omega))]; ((try (clear e0)); (try (clear e1)); (try (clear e2)); (try (clear e3)); (try (clear e4)); (try (clear e5)); (try (clear e6)); (try (clear e7)); (try (clear e8)); (try (clear e9)); (try (clear e10)); (try (clear e11)); omega)
      have hsw := hs'.out xs[i] (List.getElem_mem hl)
      have ca := c_impl_apply m xs[i].kd xs[i].sm xs[i].am xs[i].hol hg2.out hh2.out hsw
      cases hb : stB m xs[i] with
      | false =>
        have hR3 : R = (m, i) := by rw [hR2.out, runL_no hl hb]; rfl
        rw [show stepB m xs[i].kd xs[i].sm xs[i].am xs[i].hol = false from hb] at ca
        generalize stepL m xs[i].kd xs[i].sm xs[i].am xs[i].hol = sl at *
        subst hR3
        clear hb hsw
        repeat' (first | with_reducible refine OutOK.done ?_ | refine thenQ_n ?_ | refine thenQ_r ?_ | refine thenQ_e ?_ | refine AW.seq ?_ | refine AW.reg tok (by simp [*]; rfl) ?_ | refine AW.ifB (by simp [*]; rfl) ?_ | refine IfG.t ?_ | refine IfG.f ?_ | (refine IfG.p (fun hg => ?_) (fun hg => ?_) <;> (try (have hg' := hg; simp at hg'))) | (refine IfG.n (fun hg => ?_) (fun hg => ?_) <;> (try (have hg' := hg; simp at hg'))) | (refine OutOK.gateP (fun hg => ?_) (fun hg => ?_) <;> (try (have hg' := hg; simp at hg'))) | (refine OutOK.gateN (fun hg => ?_) (fun hg => ?_) <;> (try (have hg' := hg; simp at hg'))) | (refine IfG.g (fun hg => ?_) (fun hg => ?_) <;> (try (have hg' := hg; simp at hg'))) | (refine OutOK.gate (fun hg => ?_) (fun hg => ?_) <;> (try (have hg' := hg; simp at hg'))) | (refine OutOK.callF [] (by simp [*]; rfl) (by simp [*]; rfl) (by simp [*]; rfl) hb74 (by apply ca <;> first | assumption | exact Hd.out (by assumption) | ((try (clear e0)); (try (clear e1)); (try (clear e2)); (try (clear e3)); (try (clear e4)); (try (clear e5)); (try (clear e6)); (try (clear e7)); (try (clear e8)); (try (clear e9)); (try (clear e10)); (try (clear e11)); omega)) ⟨by simp [*], by simp [*], by simp [*], by simp [*], by simp [*]⟩ (by simp [*]) (by simp [*]; rfl) ?_) | refine OutOK.run (by simp [*]; rfl) ?_ | refine AW.ret ?_ | refine AW.skip ?_ | refine AW.exit ?_ | refine fin_r ?_ | refine fin_n ?_ | refine AW.block ?_ | refine blockQ_n ?_ | refine blockQ_r ?_ | refine blockQ_e ?_ | refine blockQ_o rfl ?_)
        simp [Try.f17]
      | true =>
        have hR3 := hR2.out
        rw [runL_yes hl hb] at hR3
        obtain ⟨k1, k2⟩ := stB_ok hh2.out hsw hb
        rw [show stepB m xs[i].kd xs[i].sm xs[i].am xs[i].hol = true from hb, show stepL m xs[i].kd xs[i].sm xs[i].am xs[i].hol = stL m xs[i] from rfl] at ca
        generalize stL m xs[i] = sl at *
        replace hR3 : Hd (R = ((runL sl (xs.drop (i + 1))).1, i + 1 + (runL sl (xs.drop (i + 1))).2)) := by
          rw [Hd, hR3]; simp only [Prod.mk.injEq, true_and]; omega
        replace k1 : Hd _ := k1
        replace k2 : Hd _ := k2
        clear hb hsw
        repeat' (first | with_reducible refine OutOK.done ?_ | refine thenQ_n ?_ | refine thenQ_r ?_ | refine thenQ_e ?_ | refine AW.seq ?_ | refine AW.reg tok (by simp [*]; rfl) ?_ | refine AW.ifB (by simp [*]; rfl) ?_ | refine IfG.t ?_ | refine IfG.f ?_ | (refine IfG.p (fun hg => ?_) (fun hg => ?_) <;> (try (have hg' := hg; simp at hg'))) | (refine IfG.n (fun hg => ?_) (fun hg => ?_) <;> (try (have hg' := hg; simp at hg'))) | (refine OutOK.gateP (fun hg => ?_) (fun hg => ?_) <;> (try (have hg' := hg; simp at hg'))) | (refine OutOK.gateN (fun hg => ?_) (fun hg => ?_) <;> (try (have hg' := hg; simp at hg'))) | (refine IfG.g (fun hg => ?_) (fun hg => ?_) <;> (try (have hg' := hg; simp at hg'))) | (refine OutOK.gate (fun hg => ?_) (fun hg => ?_) <;> (try (have hg' := hg; simp at hg'))) | (refine OutOK.callF [] (by simp [*]; rfl) (by simp [*]; rfl) (by simp [*]; rfl) hb74 (by apply ca <;> first | assumption | exact Hd.out (by assumption) | ((try (clear e0)); (try (clear e1)); (try (clear e2)); (try (clear e3)); (try (clear e4)); (try (clear e5)); (try (clear e6)); (try (clear e7)); (try (clear e8)); (try (clear e9)); (try (clear e10)); (try (clear e11)); omega)) ⟨by simp [*], by simp [*], by simp [*], by simp [*], by simp [*]⟩ (by simp [*]) (by simp [*]; rfl) ?_) | refine OutOK.run (by simp [*]; rfl) ?_ | refine AW.ret ?_ | refine AW.skip ?_ | refine AW.exit ?_ | refine fin_r ?_ | refine fin_n ?_ | refine AW.block ?_ | refine blockQ_n ?_ | refine blockQ_r ?_ | refine blockQ_e ?_ | refine blockQ_o rfl ?_)
        exact ⟨(i + 1, sl), ⟨hl, k1, k2, hR3⟩, ⟨[(21000, 32000)], by simp, by simp, by simp, by simp⟩, by simp only; ((try (clear e0)); (try (clear e1)); (try (clear e2)); (try (clear e3)); (try (clear e4)); (try (clear e5)); (try (clear e6)); (try (clear e7)); (try (clear e8)); (try (clear e9)); (try (clear e10)); (try (clear e11)); omega)⟩
    · have hii : i = xs.length := by ((try (clear e0)); (try (clear e1)); (try (clear e2)); (try (clear e3)); (try (clear e4)); (try (clear e5)); (try (clear e6)); (try (clear e7)); (try (clear e8)); (try (clear e9)); (try (clear e10)); (try (clear e11)); omega)
      subst hii
      have hR3 : R = (m, xs.length) := by rw [hR2.out, runL_end (Nat.le_refl _)]; rfl
      subst hR3
      clear hi hl
      repeat' (first | with_reducible refine OutOK.done ?_ | refine thenQ_n ?_ | refine thenQ_r ?_ | refine thenQ_e ?_ | refine AW.seq ?_ | refine AW.reg tok (by simp [*]; rfl) ?_ | refine AW.ifB (by simp [*]; rfl) ?_ | refine IfG.t ?_ | refine IfG.f ?_ | (refine IfG.p (fun hg => ?_) (fun hg => ?_) <;> (try (have hg' := hg; simp at hg'))) | (refine IfG.n (fun hg => ?_) (fun hg => ?_) <;> (try (have hg' := hg; simp at hg'))) | (refine OutOK.gateP (fun hg => ?_) (fun hg => ?_) <;> (try (have hg' := hg; simp at hg'))) | (refine OutOK.gateN (fun hg => ?_) (fun hg => ?_) <;> (try (have hg' := hg; simp at hg'))) | (refine IfG.g (fun hg => ?_) (fun hg => ?_) <;> (try (have hg' := hg; simp at hg'))) | (refine OutOK.gate (fun hg => ?_) (fun hg => ?_) <;> (try (have hg' := hg; simp at hg'))) | refine OutOK.run (by simp [*]; rfl) ?_ | refine AW.ret ?_ | refine AW.skip ?_ | refine AW.exit ?_ | refine fin_r ?_ | refine fin_n ?_ | refine AW.block ?_ | refine blockQ_n ?_ | refine blockQ_r ?_ | refine blockQ_e ?_ | refine blockQ_o rfl ?_)
      simp [Try.f17]
theorem c_spec_l20Run (l : List Smp) (xs : List Stp) (hg : goodS l = true) (hx : xs.length ≤ 30) (hh : ∀ s ∈ l, SmpW s) (hs : ∀ s ∈ xs, stpW s) :
    ACall Try.prog 75 [.v (.sl true 8 (smps l)), .v (.sl true 4 (stps xs))] [.x, .x] [.v (.sl false 8 (smps (runL l xs).1)), int (runL l xs).2] := by
  refine ACallX.one ?_
  have h16 := (goodS_at hg).1
  have b1 : l.length * 72 ≤ 140737488355328 := by omega
  have b2 : l.length ≤ 4611686018427387904 := by omega
  obtain ⟨R, hR⟩ : ∃ R, runL l xs = R := ⟨_, rfl⟩
  rw [hR]
  have hR0 : Hd (R = ((runL l (xs.drop 0)).1, 0 + (runL l (xs.drop 0)).2)) := by simp [Hd, ← hR]
  have hs' : Hd (∀ s ∈ xs, stpW s) := hs
  have hg' : Hd (goodS l = true) := hg
  have hh' : Hd (∀ s ∈ l, SmpW s) := hh
  clear hR hg hh hs
  refine ACallX.of (N := 36) tok Try.func75 rfl rfl rfl (by simp) ?_
  repeat' (first | with_reducible refine OutOK.done ?_ | refine thenQ_n ?_ | refine thenQ_r ?_ | refine thenQ_e ?_ | refine AW.seq ?_ | refine AW.reg tok (by simp [*]; rfl) ?_ | refine AW.ifB (by simp [*]; rfl) ?_ | refine IfG.t ?_ | refine IfG.f ?_ | (refine IfG.p (fun hg => ?_) (fun hg => ?_) <;> (try (have hg' := hg; simp at hg'))) | (refine IfG.n (fun hg => ?_) (fun hg => ?_) <;> (try (have hg' := hg; simp at hg'))) | (refine OutOK.gateP (fun hg => ?_) (fun hg => ?_) <;> (try (have hg' := hg; simp at hg'))) | (refine OutOK.gateN (fun hg => ?_) (fun hg => ?_) <;> (try (have hg' := hg; simp at hg'))) | (refine IfG.g (fun hg => ?_) (fun hg => ?_) <;> (try (have hg' := hg; simp at hg'))) | (refine OutOK.gate (fun hg => ?_) (fun hg => ?_) <;> (try (have hg' := hg; simp at hg'))) | refine OutOK.run (by simp [*]; rfl) ?_ | refine AW.ret ?_ | refine AW.skip ?_ | refine AW.exit ?_ | refine fin_r ?_ | refine fin_n ?_ | refine AW.block ?_ | refine blockQ_n ?_ | refine blockQ_r ?_ | refine blockQ_e ?_ | refine blockQ_o rfl ?_)
  refine AW.loopS (α := Nat × List Smp) (fun q => q.1 ≤ xs.length ∧ Hd (goodS q.2 = true) ∧ Hd (∀ s ∈ q.2, SmpW s) ∧ Hd (R = ((runL q.2 (xs.drop q.1)).1, q.1 + (runL q.2 (xs.drop q.1)).2))) (fun q => [(1, .c (.sl true 4 (stps xs))), (6, .rf 12000 []), (7, .c (.sc (.int .i64 (q.1 : Int))))])
    (fun q => [(12000, .sv (.sl false 8 (smps q.2)))]) (fun q => xs.length - q.1) (0, l) ⟨Nat.zero_le _, hg', hh', hR0⟩ [] (by simp) ⟨by simp, by simp, by simp⟩ ?_
  rintro ⟨i, m⟩ ⟨hi, hg2, hh2, hR2⟩
  simp only at hi hg2 hh2 hR2
  clear hR0 hg' hh' b1 b2
  rcases Nat.lt_or_ge i xs.length with hl | hl
  · have e1 : wrap64 ((i : Int) + 1) = ((i + 1 : Nat) : Int) := by rw [w64 (by ((try (clear e0)); (try (clear e1)); (try (clear e2)); (try (clear e3)); (try (clear e4)); (try (clear e5)); (try (clear e6)); (try (clear e7)); (try (clear e8)); (try (clear e9)); (try (clear e10)); (try (clear e11)); omega)) (by ((try (clear e0)); (try (clear e1)); (try (clear e2)); (try (clear e3)); (try (clear e4)); (try (clear e5)); (try (clear e6)); (try (clear e7)); (try (clear e8)); (try (clear e9)); (try (clear e10)); (try (clear e11)); omega))]; ((try (clear e0)); (try (clear e1)); (try (clear e2)); (try (clear e3)); (try (clear e4)); (try (clear e5)); (try (clear e6)); (try (clear e7)); (try (clear e8)); (try (clear e9)); (try (clear e10)); (try (clear e11)); omega)
    have hsw := hs'.out xs[i] (List.getElem_mem hl)
    have hm16 := (goodS_at hg2.out).1
    have ca := x_spec_l20Step m xs[i].kd xs[i].sm xs[i].am xs[i].hol (by ((try (clear e0)); (try (clear e1)); (try (clear e2)); (try (clear e3)); (try (clear e4)); (try (clear e5)); (try (clear e6)); (try (clear e7)); (try (clear e8)); (try (clear e9)); (try (clear e10)); (try (clear e11)); omega)) hh2.out hsw
    cases hb : stB m xs[i] with
    | false =>
      have hR3 : R = (m, i) := by rw [hR2.out, runL_no hl hb]; rfl
      rw [show stepB m xs[i].kd xs[i].sm xs[i].am xs[i].hol = false from hb] at ca
      generalize stepL m xs[i].kd xs[i].sm xs[i].am xs[i].hol = sl at *
      subst hR3
      clear hb hsw hm16
      repeat' (first | with_reducible refine OutOK.done ?_ | refine thenQ_n ?_ | refine thenQ_r ?_ | refine thenQ_e ?_ | refine AW.seq ?_ | refine AW.reg tok (by simp [*]; rfl) ?_ | refine AW.ifB (by simp [*]; rfl) ?_ | refine IfG.t ?_ | refine IfG.f ?_ | (refine IfG.p (fun hg => ?_) (fun hg => ?_) <;> (try (have hg' := hg; simp at hg'))) | (refine IfG.n (fun hg => ?_) (fun hg => ?_) <;> (try (have hg' := hg; simp at hg'))) | (refine OutOK.gateP (fun hg => ?_) (fun hg => ?_) <;> (try (have hg' := hg; simp at hg'))) | (refine OutOK.gateN (fun hg => ?_) (fun hg => ?_) <;> (try (have hg' := hg; simp at hg'))) | (refine IfG.g (fun hg => ?_) (fun hg => ?_) <;> (try (have hg' := hg; simp at hg'))) | (refine OutOK.gate (fun hg => ?_) (fun hg => ?_) <;> (try (have hg' := hg; simp at hg'))) | refine OutOK.run (by simp [*]; rfl) ?_ | refine AW.ret ?_ | refine AW.skip ?_ | refine AW.exit ?_ | refine fin_r ?_ | refine fin_n ?_ | refine AW.block ?_ | refine blockQ_n ?_ | refine blockQ_r ?_ | refine blockQ_e ?_ | refine blockQ_o rfl ?_)
      refine OutOK.callX [] (by simp [*]; rfl) (by simp [*]; rfl) (by simp [*]; rfl) hb69 (by apply ca <;> first | assumption | exact Hd.out (by assumption) | ((try (clear e0)); (try (clear e1)); (try (clear e2)); (try (clear e3)); (try (clear e4)); (try (clear e5)); (try (clear e6)); (try (clear e7)); (try (clear e8)); (try (clear e9)); (try (clear e10)); (try (clear e11)); omega)) ⟨by simp [*], by simp [*], by simp [*]⟩ (by simp [*]) (fun x hx => ?_)
      clear ca hx
      refine CallX.mk' ⟨by simp [*], by simp [*], by simp [*], by simp [*], by simp [*]⟩ (by simp [*]; rfl) ?_
      repeat' (first | with_reducible refine OutOK.done ?_ | refine thenQ_n ?_ | refine thenQ_r ?_ | refine thenQ_e ?_ | refine AW.seq ?_ | refine AW.reg tok (by simp [*]; rfl) ?_ | refine AW.ifB (by simp [*]; rfl) ?_ | refine IfG.t ?_ | refine IfG.f ?_ | (refine IfG.p (fun hg => ?_) (fun hg => ?_) <;> (try (have hg' := hg; simp at hg'))) | (refine IfG.n (fun hg => ?_) (fun hg => ?_) <;> (try (have hg' := hg; simp at hg'))) | (refine OutOK.gateP (fun hg => ?_) (fun hg => ?_) <;> (try (have hg' := hg; simp at hg'))) | (refine OutOK.gateN (fun hg => ?_) (fun hg => ?_) <;> (try (have hg' := hg; simp at hg'))) | (refine IfG.g (fun hg => ?_) (fun hg => ?_) <;> (try (have hg' := hg; simp at hg'))) | (refine OutOK.gate (fun hg => ?_) (fun hg => ?_) <;> (try (have hg' := hg; simp at hg'))) | refine OutOK.run (by simp [*]; rfl) ?_ | refine AW.ret ?_ | refine AW.skip ?_ | refine AW.exit ?_ | refine fin_r ?_ | refine fin_n ?_ | refine AW.block ?_ | refine blockQ_n ?_ | refine blockQ_r ?_ | refine blockQ_e ?_ | refine blockQ_o rfl ?_)
      exact ⟨(), trivial, by simp [Try.f75]⟩
    | true =>
      have hR3 := hR2.out
      rw [runL_yes hl hb] at hR3
      obtain ⟨k1, k2⟩ := stB_ok hh2.out hsw hb
      rw [show stepB m xs[i].kd xs[i].sm xs[i].am xs[i].hol = true from hb, show stepL m xs[i].kd xs[i].sm xs[i].am xs[i].hol = stL m xs[i] from rfl] at ca
      generalize stL m xs[i] = sl at *
      replace hR3 : Hd (R = ((runL sl (xs.drop (i + 1))).1, i + 1 + (runL sl (xs.drop (i + 1))).2)) := by
        rw [Hd, hR3]; simp only [Prod.mk.injEq, true_and]; omega
      replace k1 : Hd _ := k1
      replace k2 : Hd _ := k2
      clear hb hsw hm16
      repeat' (first | with_reducible refine OutOK.done ?_ | refine thenQ_n ?_ | refine thenQ_r ?_ | refine thenQ_e ?_ | refine AW.seq ?_ | refine AW.reg tok (by simp [*]; rfl) ?_ | refine AW.ifB (by simp [*]; rfl) ?_ | refine IfG.t ?_ | refine IfG.f ?_ | (refine IfG.p (fun hg => ?_) (fun hg => ?_) <;> (try (have hg' := hg; simp at hg'))) | (refine IfG.n (fun hg => ?_) (fun hg => ?_) <;> (try (have hg' := hg; simp at hg'))) | (refine OutOK.gateP (fun hg => ?_) (fun hg => ?_) <;> (try (have hg' := hg; simp at hg'))) | (refine OutOK.gateN (fun hg => ?_) (fun hg => ?_) <;> (try (have hg' := hg; simp at hg'))) | (refine IfG.g (fun hg => ?_) (fun hg => ?_) <;> (try (have hg' := hg; simp at hg'))) | (refine OutOK.gate (fun hg => ?_) (fun hg => ?_) <;> (try (have hg' := hg; simp at hg'))) | refine OutOK.run (by simp [*]; rfl) ?_ | refine AW.ret ?_ | refine AW.skip ?_ | refine AW.exit ?_ | refine fin_r ?_ | refine fin_n ?_ | refine AW.block ?_ | refine blockQ_n ?_ | refine blockQ_r ?_ | refine blockQ_e ?_ | refine blockQ_o rfl ?_)
      refine OutOK.callX [] (by simp [*]; rfl) (by simp [*]; rfl) (by simp [*]; rfl) hb69 (by apply ca <;> first | assumption | exact Hd.out (by assumption) | ((try (clear e0)); (try (clear e1)); (try (clear e2)); (try (clear e3)); (try (clear e4)); (try (clear e5)); (try (clear e6)); (try (clear e7)); (try (clear e8)); (try (clear e9)); (try (clear e10)); (try (clear e11)); omega)) ⟨by simp [*], by simp [*], by simp [*]⟩ (by simp [*]) (fun x hx => ?_)
      obtain ⟨-, -, t3⟩ := hx
      obtain rfl := t3 rfl
      clear ca t3
      refine CallX.mk' ⟨by simp [*], by simp [*], by simp [*], by simp [*], by simp [*]⟩ (by simp [*]; rfl) ?_
      repeat' (first | with_reducible refine OutOK.done ?_ | refine thenQ_n ?_ | refine thenQ_r ?_ | refine thenQ_e ?_ | refine AW.seq ?_ | refine AW.reg tok (by simp [*]; rfl) ?_ | refine AW.ifB (by simp [*]; rfl) ?_ | refine IfG.t ?_ | refine IfG.f ?_ | (refine IfG.p (fun hg => ?_) (fun hg => ?_) <;> (try (have hg' := hg; simp at hg'))) | (refine IfG.n (fun hg => ?_) (fun hg => ?_) <;> (try (have hg' := hg; simp at hg'))) | (refine OutOK.gateP (fun hg => ?_) (fun hg => ?_) <;> (try (have hg' := hg; simp at hg'))) | (refine OutOK.gateN (fun hg => ?_) (fun hg => ?_) <;> (try (have hg' := hg; simp at hg'))) | (refine IfG.g (fun hg => ?_) (fun hg => ?_) <;> (try (have hg' := hg; simp at hg'))) | (refine OutOK.gate (fun hg => ?_) (fun hg => ?_) <;> (try (have hg' := hg; simp at hg'))) | refine OutOK.run (by simp [*]; rfl) ?_ | refine AW.ret ?_ | refine AW.skip ?_ | refine AW.exit ?_ | refine fin_r ?_ | refine fin_n ?_ | refine AW.block ?_ | refine blockQ_n ?_ | refine blockQ_r ?_ | refine blockQ_e ?_ | refine blockQ_o rfl ?_)
      exact ⟨(i + 1, x), ⟨hl, k1, k2, hR3⟩, ⟨[(12000, 25000)], by simp, by simp, by simp, by simp⟩, by simp only; ((try (clear e0)); (try (clear e1)); (try (clear e2)); (try (clear e3)); (try (clear e4)); (try (clear e5)); (try (clear e6)); (try (clear e7)); (try (clear e8)); (try (clear e9)); (try (clear e10)); (try (clear e11)); omega)⟩
  · have hii : i = xs.length := by ((try (clear e0)); (try (clear e1)); (try (clear e2)); (try (clear e3)); (try (clear e4)); (try (clear e5)); (try (clear e6)); (try (clear e7)); (try (clear e8)); (try (clear e9)); (try (clear e10)); (try (clear e11)); omega)
    subst hii
    have hR3 : R = (m, xs.length) := by rw [hR2.out, runL_end (Nat.le_refl _)]; rfl
    subst hR3
    clear hi hl
    repeat' (first | with_reducible refine OutOK.done ?_ | refine thenQ_n ?_ | refine thenQ_r ?_ | refine thenQ_e ?_ | refine AW.seq ?_ | refine AW.reg tok (by simp [*]; rfl) ?_ | refine AW.ifB (by simp [*]; rfl) ?_ | refine IfG.t ?_ | refine IfG.f ?_ | (refine IfG.p (fun hg => ?_) (fun hg => ?_) <;> (try (have hg' := hg; simp at hg'))) | (refine IfG.n (fun hg => ?_) (fun hg => ?_) <;> (try (have hg' := hg; simp at hg'))) | (refine OutOK.gateP (fun hg => ?_) (fun hg => ?_) <;> (try (have hg' := hg; simp at hg'))) | (refine OutOK.gateN (fun hg => ?_) (fun hg => ?_) <;> (try (have hg' := hg; simp at hg'))) | (refine IfG.g (fun hg => ?_) (fun hg => ?_) <;> (try (have hg' := hg; simp at hg'))) | (refine OutOK.gate (fun hg => ?_) (fun hg => ?_) <;> (try (have hg' := hg; simp at hg'))) | refine OutOK.run (by simp [*]; rfl) ?_ | refine AW.ret ?_ | refine AW.skip ?_ | refine AW.exit ?_ | refine fin_r ?_ | refine fin_n ?_ | refine AW.block ?_ | refine blockQ_n ?_ | refine blockQ_r ?_ | refine blockQ_e ?_ | refine blockQ_o rfl ?_)
    exact ⟨(), trivial, by simp [Try.f75]⟩
theorem c_spec_RunSteps (l : List Smp) (xs : List Stp) (h : l.length ≤ 1000000000) (hx : xs.length ≤ 1000000000) (hh : ∀ s ∈ l, SmpW s) (hs : ∀ s ∈ xs, stpW s) :
    ACall Try.prog 18 [.v (.sl true 8 (smps l)), .v (.sl true 4 (stps xs))] [.x, .x] [.v (.sl false 8 (smps (runM l xs))), int (runN l xs), boo (runB l xs)] := by
  have cv := c_spec_l20Good l (by omega) hh
  cases hB : runB l xs with
  | false =>
    rw [show runM l xs = [] by simp [runM, hB], show runN l xs = 0 by simp [runN, hB]]
    cases hg : goodS l with
    | false =>
      rw [hg] at cv
      clear hB hg hh hs
      refine ACall.of (N := 26) tok Try.func18 rfl rfl rfl (by simp) ?_
      repeat' (first | with_reducible refine OutOK.done ?_ | refine thenQ_n ?_ | refine thenQ_r ?_ | refine thenQ_e ?_ | refine AW.seq ?_ | refine AW.reg tok (by simp [*]; rfl) ?_ | refine AW.ifB (by simp [*]; rfl) ?_ | refine IfG.t ?_ | refine IfG.f ?_ | (refine IfG.p (fun hg => ?_) (fun hg => ?_) <;> (try (have hg' := hg; simp at hg'))) | (refine IfG.n (fun hg => ?_) (fun hg => ?_) <;> (try (have hg' := hg; simp at hg'))) | (refine OutOK.gateP (fun hg => ?_) (fun hg => ?_) <;> (try (have hg' := hg; simp at hg'))) | (refine OutOK.gateN (fun hg => ?_) (fun hg => ?_) <;> (try (have hg' := hg; simp at hg'))) | (refine IfG.g (fun hg => ?_) (fun hg => ?_) <;> (try (have hg' := hg; simp at hg'))) | (refine OutOK.gate (fun hg => ?_) (fun hg => ?_) <;> (try (have hg' := hg; simp at hg'))) | (refine OutOK.callF [] (by simp [*]; rfl) (by simp [*]; rfl) (by simp [*]; rfl) hb70 (by apply cv <;> first | assumption | exact Hd.out (by assumption) | ((try (clear e0)); (try (clear e1)); (try (clear e2)); (try (clear e3)); (try (clear e4)); (try (clear e5)); (try (clear e6)); (try (clear e7)); (try (clear e8)); (try (clear e9)); (try (clear e10)); (try (clear e11)); omega)) ⟨by simp [*], by simp [*], by simp [*], by simp [*], by simp [*]⟩ (by simp [*]) (by simp [*]; rfl) ?_) | refine OutOK.run (by simp [*]; rfl) ?_ | refine AW.ret ?_ | refine AW.skip ?_ | refine AW.exit ?_ | refine fin_r ?_ | refine fin_n ?_ | refine AW.block ?_ | refine blockQ_n ?_ | refine blockQ_r ?_ | refine blockQ_e ?_ | refine blockQ_o rfl ?_)
      simp [Try.f18, smps]
    | true =>
      rw [hg] at cv
      have h30 : (30 : Int) < xs.length := by simp [runB, hg] at hB; omega
      clear hB hg hh hs
      refine ACall.of (N := 26) tok Try.func18 rfl rfl rfl (by simp) ?_
      repeat' (first | with_reducible refine OutOK.done ?_ | refine thenQ_n ?_ | refine thenQ_r ?_ | refine thenQ_e ?_ | refine AW.seq ?_ | refine AW.reg tok (by simp [*]; rfl) ?_ | refine AW.ifB (by simp [*]; rfl) ?_ | refine IfG.t ?_ | refine IfG.f ?_ | (refine IfG.p (fun hg => ?_) (fun hg => ?_) <;> (try (have hg' := hg; simp at hg'))) | (refine IfG.n (fun hg => ?_) (fun hg => ?_) <;> (try (have hg' := hg; simp at hg'))) | (refine OutOK.gateP (fun hg => ?_) (fun hg => ?_) <;> (try (have hg' := hg; simp at hg'))) | (refine OutOK.gateN (fun hg => ?_) (fun hg => ?_) <;> (try (have hg' := hg; simp at hg'))) | (refine IfG.g (fun hg => ?_) (fun hg => ?_) <;> (try (have hg' := hg; simp at hg'))) | (refine OutOK.gate (fun hg => ?_) (fun hg => ?_) <;> (try (have hg' := hg; simp at hg'))) | (refine OutOK.callF [] (by simp [*]; rfl) (by simp [*]; rfl) (by simp [*]; rfl) hb70 (by apply cv <;> first | assumption | exact Hd.out (by assumption) | ((try (clear e0)); (try (clear e1)); (try (clear e2)); (try (clear e3)); (try (clear e4)); (try (clear e5)); (try (clear e6)); (try (clear e7)); (try (clear e8)); (try (clear e9)); (try (clear e10)); (try (clear e11)); omega)) ⟨by simp [*], by simp [*], by simp [*], by simp [*], by simp [*]⟩ (by simp [*]) (by simp [*]; rfl) ?_) | refine OutOK.run (by simp [*]; rfl) ?_ | refine AW.ret ?_ | refine AW.skip ?_ | refine AW.exit ?_ | refine fin_r ?_ | refine fin_n ?_ | refine AW.block ?_ | refine blockQ_n ?_ | refine blockQ_r ?_ | refine blockQ_e ?_ | refine blockQ_o rfl ?_)
      simp [Try.f18, smps]
  | true =>
    have hB' := hB
    simp only [runB, Bool.and_eq_true, decide_eq_true_eq] at hB'
    obtain ⟨hg, h30⟩ := hB'
    rw [hg] at cv
    rw [show runM l xs = (runL l xs).1 by simp [runM, hB], show runN l xs = (runL l xs).2 by simp [runN, hB]]
    have cr := c_spec_l20Run l xs hg h30 hh hs
    have h30' : ¬ (30 : Int) < xs.length := by omega
    generalize runL l xs = R at *
    clear hB hg hh hs
    refine ACall.of (N := 26) tok Try.func18 rfl rfl rfl (by simp) ?_
    repeat' (first | with_reducible refine OutOK.done ?_ | refine thenQ_n ?_ | refine thenQ_r ?_ | refine thenQ_e ?_ | refine AW.seq ?_ | refine AW.reg tok (by simp [*]; rfl) ?_ | refine AW.ifB (by simp [*]; rfl) ?_ | refine IfG.t ?_ | refine IfG.f ?_ | (refine IfG.p (fun hg => ?_) (fun hg => ?_) <;> (try (have hg' := hg; simp at hg'))) | (refine IfG.n (fun hg => ?_) (fun hg => ?_) <;> (try (have hg' := hg; simp at hg'))) | (refine OutOK.gateP (fun hg => ?_) (fun hg => ?_) <;> (try (have hg' := hg; simp at hg'))) | (refine OutOK.gateN (fun hg => ?_) (fun hg => ?_) <;> (try (have hg' := hg; simp at hg'))) | (refine IfG.g (fun hg => ?_) (fun hg => ?_) <;> (try (have hg' := hg; simp at hg'))) | (refine OutOK.gate (fun hg => ?_) (fun hg => ?_) <;> (try (have hg' := hg; simp at hg'))) | (refine OutOK.callF [] (by simp [*]; rfl) (by simp [*]; rfl) (by simp [*]; rfl) hb70 (by apply cv <;> first | assumption | exact Hd.out (by assumption) | ((try (clear e0)); (try (clear e1)); (try (clear e2)); (try (clear e3)); (try (clear e4)); (try (clear e5)); (try (clear e6)); (try (clear e7)); (try (clear e8)); (try (clear e9)); (try (clear e10)); (try (clear e11)); omega)) ⟨by simp [*], by simp [*], by simp [*], by simp [*], by simp [*]⟩ (by simp [*]) (by simp [*]; rfl) ?_) | (refine OutOK.callF [] (by simp [*]; rfl) (by simp [*]; rfl) (by simp [*]; rfl) hb75 (by apply cr <;> first | assumption | exact Hd.out (by assumption) | ((try (clear e0)); (try (clear e1)); (try (clear e2)); (try (clear e3)); (try (clear e4)); (try (clear e5)); (try (clear e6)); (try (clear e7)); (try (clear e8)); (try (clear e9)); (try (clear e10)); (try (clear e11)); omega)) ⟨by simp [*], by simp [*], by simp [*], by simp [*], by simp [*]⟩ (by simp [*]) (by simp [*]; rfl) ?_) | refine OutOK.run (by simp [*]; rfl) ?_ | refine AW.ret ?_ | refine AW.skip ?_ | refine AW.exit ?_ | refine fin_r ?_ | refine fin_n ?_ | refine AW.block ?_ | refine blockQ_n ?_ | refine blockQ_r ?_ | refine blockQ_e ?_ | refine blockQ_o rfl ?_)
    simp [Try.f18]
end Go.Proofs.Ytodombkmnnggeaa.EngS


set_option linter.unusedSimpArgs false
set_option linter.unusedVariables false
set_option maxHeartbeats 4000000
set_option maxRecDepth 100000
namespace Go.Proofs.Ytodombkmnnggeaa.EngS
open Go Go.Proofs Go.Eng Go.RowKit
attribute [local irreducible] Go.RowKit.wrap64
abbrev stpG (s : Stp) : D := .g [.sc (.int .i64 s.kd), .sc (.int .i64 s.sm), .sc (.int .i64 s.am), .sc (.string s.hol)]
theorem c_laws_toStep (s : Stp) : ACall Try.prog 84 [stpG s] [.x] [stpG s] := by
  refine ACall.of (N := 17) tok Try.func84 rfl rfl rfl (by simp) ?_
  repeat' (first | with_reducible refine OutOK.done ?_ | refine thenQ_n ?_ | refine thenQ_r ?_ | refine thenQ_e ?_ | refine AW.seq ?_ | refine AW.reg tok (by simp [*]; rfl) ?_ | refine AW.ifB (by simp [*]; rfl) ?_ | refine IfG.t ?_ | refine IfG.f ?_ | (refine IfG.p (fun hg => ?_) (fun hg => ?_) <;> (try (have hg' := hg; simp at hg'))) | (refine IfG.n (fun hg => ?_) (fun hg => ?_) <;> (try (have hg' := hg; simp at hg'))) | (refine OutOK.gateP (fun hg => ?_) (fun hg => ?_) <;> (try (have hg' := hg; simp at hg'))) | (refine OutOK.gateN (fun hg => ?_) (fun hg => ?_) <;> (try (have hg' := hg; simp at hg'))) | (refine IfG.g (fun hg => ?_) (fun hg => ?_) <;> (try (have hg' := hg; simp at hg'))) | (refine OutOK.gate (fun hg => ?_) (fun hg => ?_) <;> (try (have hg' := hg; simp at hg'))) | refine OutOK.run (by simp [*]; rfl) ?_ | refine AW.ret ?_ | refine AW.skip ?_ | refine AW.exit ?_ | refine fin_r ?_ | refine fin_n ?_ | refine AW.block ?_ | refine blockQ_n ?_ | refine blockQ_r ?_ | refine blockQ_e ?_ | refine blockQ_o rfl ?_)
  all_goals (try simp [*, Try.f84])
theorem c_laws_eqStep (s : Stp) : ACall Try.prog 86 [stpG s, stpG s] [.x, .x] [boo true] := by
  refine ACall.of (N := 25) tok Try.func86 rfl rfl rfl (by simp) ?_
  repeat' (first | with_reducible refine OutOK.done ?_ | refine thenQ_n ?_ | refine thenQ_r ?_ | refine thenQ_e ?_ | refine AW.seq ?_ | refine AW.reg tok (by simp [*]; rfl) ?_ | refine AW.ifB (by simp [*]; rfl) ?_ | refine IfG.t ?_ | refine IfG.f ?_ | (refine IfG.p (fun hg => ?_) (fun hg => ?_) <;> (try (have hg' := hg; simp at hg'))) | (refine IfG.n (fun hg => ?_) (fun hg => ?_) <;> (try (have hg' := hg; simp at hg'))) | (refine OutOK.gateP (fun hg => ?_) (fun hg => ?_) <;> (try (have hg' := hg; simp at hg'))) | (refine OutOK.gateN (fun hg => ?_) (fun hg => ?_) <;> (try (have hg' := hg; simp at hg'))) | (refine IfG.g (fun hg => ?_) (fun hg => ?_) <;> (try (have hg' := hg; simp at hg'))) | (refine OutOK.gate (fun hg => ?_) (fun hg => ?_) <;> (try (have hg' := hg; simp at hg'))) | refine OutOK.run (by simp [*]; rfl) ?_ | refine AW.ret ?_ | refine AW.skip ?_ | refine AW.exit ?_ | refine fin_r ?_ | refine fin_n ?_ | refine AW.block ?_ | refine blockQ_n ?_ | refine blockQ_r ?_ | refine blockQ_e ?_ | refine blockQ_o rfl ?_)
  all_goals (try simp [*, Try.f86])
theorem c_laws_eqStepS (l : List Stp) (h : l.length < 9223372036854775807) : ACall Try.prog 29 [.v (.sl true 4 (stps l)), .v (.sl true 4 (stps l))] [.x, .x] [boo true] := by
  refine ACall.of (N := 27) tok Try.func29 rfl rfl rfl (by simp) ?_
  repeat' (first | with_reducible refine OutOK.done ?_ | refine thenQ_n ?_ | refine thenQ_r ?_ | refine thenQ_e ?_ | refine AW.seq ?_ | refine AW.dreg tok mixed [7]  [(0, false), (1, false), (2, false), (4, false), (5, false), (6, false), (3, false), (7, true), (8, false), (9, false)] (by decide +kernel) rfl (by simp [*]; rfl) ?_ | refine AW.reg tok (by simp [*]; rfl) ?_ | refine AW.ifB (by simp [*]; rfl) ?_ | refine IfG.t ?_ | refine IfG.f ?_ | (refine IfG.p (fun hg => ?_) (fun hg => ?_) <;> (try (have hg' := hg; simp at hg'))) | (refine IfG.n (fun hg => ?_) (fun hg => ?_) <;> (try (have hg' := hg; simp at hg'))) | (refine OutOK.gateP (fun hg => ?_) (fun hg => ?_) <;> (try (have hg' := hg; simp at hg'))) | (refine OutOK.gateN (fun hg => ?_) (fun hg => ?_) <;> (try (have hg' := hg; simp at hg'))) | (refine IfG.g (fun hg => ?_) (fun hg => ?_) <;> (try (have hg' := hg; simp at hg'))) | (refine OutOK.gate (fun hg => ?_) (fun hg => ?_) <;> (try (have hg' := hg; simp at hg'))) | (refine OutOK.callF [] (by simp [*]; rfl) (by simp [*]; rfl) (by simp [*]; rfl) hb86 (by apply c_laws_eqStep <;> first | assumption | exact Hd.out (by assumption) | ((try (clear e0)); (try (clear e1)); (try (clear e2)); (try (clear e3)); (try (clear e4)); (try (clear e5)); (try (clear e6)); (try (clear e7)); (try (clear e8)); (try (clear e9)); (try (clear e10)); (try (clear e11)); omega)) ⟨by simp [*], by simp [*], by simp [*], by simp [*], by simp [*]⟩ (by simp [*]) (by simp [*]; rfl) ?_) | refine OutOK.run (by simp [*]; rfl) ?_ | refine AW.ret ?_ | refine AW.skip ?_ | refine AW.exit ?_ | refine fin_r ?_ | refine fin_n ?_ | refine AW.block ?_ | refine blockQ_n ?_ | refine blockQ_r ?_ | refine blockQ_e ?_ | refine blockQ_o rfl ?_)
  refine AW.loopL (fun i => i ≤ l.length) (fun i => [(0, .c (.sl true 4 (stps l))), (1, .c (.sl true 4 (stps l))), (5, .c (.sc (.int .i64 (i : Int))))]) (fun _ => []) (fun i => l.length - i) 0 (Nat.zero_le _) ⟨by simp, by simp, by simp⟩ ?_
  intro i hi
  rcases Nat.lt_or_ge i l.length with hl | hl
  · have e1 : wrap64 ((i : Int) + 1) = ((i + 1 : Nat) : Int) := by rw [w64 (by omega) (by omega)]; omega
    repeat' (first | with_reducible refine OutOK.done ?_ | refine thenQ_n ?_ | refine thenQ_r ?_ | refine thenQ_e ?_ | refine AW.seq ?_ | refine AW.dreg tok mixed [7]  [(0, false), (1, false), (2, false), (4, false), (5, false), (6, false), (3, false), (7, true), (8, false), (9, false)] (by decide +kernel) rfl (by simp [*]; rfl) ?_ | refine AW.reg tok (by simp [*]; rfl) ?_ | refine AW.ifB (by simp [*]; rfl) ?_ | refine IfG.t ?_ | refine IfG.f ?_ | (refine IfG.p (fun hg => ?_) (fun hg => ?_) <;> (try (have hg' := hg; simp at hg'))) | (refine IfG.n (fun hg => ?_) (fun hg => ?_) <;> (try (have hg' := hg; simp at hg'))) | (refine OutOK.gateP (fun hg => ?_) (fun hg => ?_) <;> (try (have hg' := hg; simp at hg'))) | (refine OutOK.gateN (fun hg => ?_) (fun hg => ?_) <;> (try (have hg' := hg; simp at hg'))) | (refine IfG.g (fun hg => ?_) (fun hg => ?_) <;> (try (have hg' := hg; simp at hg'))) | (refine OutOK.gate (fun hg => ?_) (fun hg => ?_) <;> (try (have hg' := hg; simp at hg'))) | (refine OutOK.callF [] (by simp [*]; rfl) (by simp [*]; rfl) (by simp [*]; rfl) hb86 (by apply c_laws_eqStep <;> first | assumption | exact Hd.out (by assumption) | ((try (clear e0)); (try (clear e1)); (try (clear e2)); (try (clear e3)); (try (clear e4)); (try (clear e5)); (try (clear e6)); (try (clear e7)); (try (clear e8)); (try (clear e9)); (try (clear e10)); (try (clear e11)); omega)) ⟨by simp [*], by simp [*], by simp [*], by simp [*], by simp [*]⟩ (by simp [*]) (by simp [*]; rfl) ?_) | refine OutOK.run (by simp [*]; rfl) ?_ | refine AW.ret ?_ | refine AW.skip ?_ | refine AW.exit ?_ | refine fin_r ?_ | refine fin_n ?_ | refine AW.block ?_ | refine blockQ_n ?_ | refine blockQ_r ?_ | refine blockQ_e ?_ | refine blockQ_o rfl ?_)
    exact ⟨i + 1, hl, ⟨by simp, by simp, by simp⟩, by ((try (clear e0)); (try (clear e1)); (try (clear e2)); (try (clear e3)); (try (clear e4)); (try (clear e5)); (try (clear e6)); (try (clear e7)); (try (clear e8)); (try (clear e9)); (try (clear e10)); (try (clear e11)); omega)⟩
  · have hn : ¬ i < l.length := by omega
    repeat' (first | with_reducible refine OutOK.done ?_ | refine thenQ_n ?_ | refine thenQ_r ?_ | refine thenQ_e ?_ | refine AW.seq ?_ | refine AW.dreg tok mixed [7]  [(0, false), (1, false), (2, false), (4, false), (5, false), (6, false), (3, false), (7, true), (8, false), (9, false)] (by decide +kernel) rfl (by simp [*]; rfl) ?_ | refine AW.reg tok (by simp [*]; rfl) ?_ | refine AW.ifB (by simp [*]; rfl) ?_ | refine IfG.t ?_ | refine IfG.f ?_ | (refine IfG.p (fun hg => ?_) (fun hg => ?_) <;> (try (have hg' := hg; simp at hg'))) | (refine IfG.n (fun hg => ?_) (fun hg => ?_) <;> (try (have hg' := hg; simp at hg'))) | (refine OutOK.gateP (fun hg => ?_) (fun hg => ?_) <;> (try (have hg' := hg; simp at hg'))) | (refine OutOK.gateN (fun hg => ?_) (fun hg => ?_) <;> (try (have hg' := hg; simp at hg'))) | (refine IfG.g (fun hg => ?_) (fun hg => ?_) <;> (try (have hg' := hg; simp at hg'))) | (refine OutOK.gate (fun hg => ?_) (fun hg => ?_) <;> (try (have hg' := hg; simp at hg'))) | (refine OutOK.callF [] (by simp [*]; rfl) (by simp [*]; rfl) (by simp [*]; rfl) hb86 (by apply c_laws_eqStep <;> first | assumption | exact Hd.out (by assumption) | ((try (clear e0)); (try (clear e1)); (try (clear e2)); (try (clear e3)); (try (clear e4)); (try (clear e5)); (try (clear e6)); (try (clear e7)); (try (clear e8)); (try (clear e9)); (try (clear e10)); (try (clear e11)); omega)) ⟨by simp [*], by simp [*], by simp [*], by simp [*], by simp [*]⟩ (by simp [*]) (by simp [*]; rfl) ?_) | refine OutOK.run (by simp [*]; rfl) ?_ | refine AW.ret ?_ | refine AW.skip ?_ | refine AW.exit ?_ | refine fin_r ?_ | refine fin_n ?_ | refine AW.block ?_ | refine blockQ_n ?_ | refine blockQ_r ?_ | refine blockQ_e ?_ | refine blockQ_o rfl ?_)
    all_goals (try simp [*, Try.f29])
def sqF : List Stp → Int → Int
  | [], l => l
  | s :: r, l => if l - s.hol.size < 0 then -1 else sqF r (l - s.hol.size)
def sqT (xs : List Stp) (l : Int) : Int := if l - xs.length < 0 then -1 else sqF xs (l - xs.length)
theorem sqT_len {xs : List Stp} {l : Int} (h : ¬ sqT xs l < 0) : xs.length ≤ l := by
  unfold sqT at h
  split at h <;> omega
theorem c_laws_szStep (s : Stp) (l : Int) (h : s.hol.size ≤ 9223372036854775807) (h0 : 0 ≤ l) (h1 : l ≤ 1048576) : ACall Try.prog 82 [stpG s, int l] [.x, .x] [int (if l - s.hol.size < 0 then -1 else l - s.hol.size)] := by
  have e1 : wrap64 (l - s.hol.size) = l - s.hol.size := w64 (by omega) (by omega)
  refine ACall.of (N := 13) tok Try.func82 rfl rfl rfl (by simp) ?_
  repeat' (first | with_reducible refine OutOK.done ?_ | refine thenQ_n ?_ | refine thenQ_r ?_ | refine thenQ_e ?_ | refine AW.seq ?_ | refine AW.reg tok (by simp [*]; rfl) ?_ | refine AW.ifB (by simp [*]; rfl) ?_ | refine IfG.t ?_ | refine IfG.f ?_ | (refine IfG.p (fun hg => ?_) (fun hg => ?_) <;> (try (have hg' := hg; simp at hg'))) | (refine IfG.n (fun hg => ?_) (fun hg => ?_) <;> (try (have hg' := hg; simp at hg'))) | (refine OutOK.gateP (fun hg => ?_) (fun hg => ?_) <;> (try (have hg' := hg; simp at hg'))) | (refine OutOK.gateN (fun hg => ?_) (fun hg => ?_) <;> (try (have hg' := hg; simp at hg'))) | (refine IfG.g (fun hg => ?_) (fun hg => ?_) <;> (try (have hg' := hg; simp at hg'))) | (refine OutOK.gate (fun hg => ?_) (fun hg => ?_) <;> (try (have hg' := hg; simp at hg'))) | refine OutOK.run (by simp [*]; rfl) ?_ | refine AW.ret ?_ | refine AW.skip ?_ | refine AW.exit ?_ | refine fin_r ?_ | refine fin_n ?_ | refine AW.block ?_ | refine blockQ_n ?_ | refine blockQ_r ?_ | refine blockQ_e ?_ | refine blockQ_o rfl ?_)
  · simp [Try.f82, if_pos hg]
  · simp [Try.f82, if_neg hg]
theorem c_laws_szStepS (xs : List Stp) (l : Int) (h : xs.length ≤ 9223372036854775807) (hh : ∀ s ∈ xs, s.hol.size ≤ 9223372036854775807) (h0 : 0 ≤ l) (h1 : l ≤ 1048576) : ACall Try.prog 25 [.v (.sl true 4 (stps xs)), int l] [.x, .x] [int (sqT xs l)] := by
  have e1 : wrap64 (l - xs.length) = l - xs.length := w64 (by omega) (by omega)
  rcases Int.lt_or_le (l - xs.length) 0 with hn | hn
  · have hz : sqT xs l = -1 := by simp [sqT, hn]
    refine ACall.of (N := 27) tok Try.func25 rfl rfl rfl (by simp) ?_
    repeat' (first | with_reducible refine OutOK.done ?_ | refine thenQ_n ?_ | refine thenQ_r ?_ | refine thenQ_e ?_ | refine AW.seq ?_ | refine AW.reg tok (by simp [*]; rfl) ?_ | refine AW.ifB (by simp [*]; rfl) ?_ | refine IfG.t ?_ | refine IfG.f ?_ | (refine IfG.p (fun hg => ?_) (fun hg => ?_) <;> (try (have hg' := hg; simp at hg'))) | (refine IfG.n (fun hg => ?_) (fun hg => ?_) <;> (try (have hg' := hg; simp at hg'))) | (refine OutOK.gateP (fun hg => ?_) (fun hg => ?_) <;> (try (have hg' := hg; simp at hg'))) | (refine OutOK.gateN (fun hg => ?_) (fun hg => ?_) <;> (try (have hg' := hg; simp at hg'))) | (refine IfG.g (fun hg => ?_) (fun hg => ?_) <;> (try (have hg' := hg; simp at hg'))) | (refine OutOK.gate (fun hg => ?_) (fun hg => ?_) <;> (try (have hg' := hg; simp at hg'))) | (refine OutOK.callF [] (by simp [*]; rfl) (by simp [*]; rfl) (by simp [*]; rfl) hb82 (by apply c_laws_szStep <;> first | assumption | exact Hd.out (by assumption) | ((try (clear e0)); (try (clear e1)); (try (clear e2)); (try (clear e3)); (try (clear e4)); (try (clear e5)); (try (clear e6)); (try (clear e7)); (try (clear e8)); (try (clear e9)); (try (clear e10)); (try (clear e11)); omega)) ⟨by simp [*], by simp [*], by simp [*], by simp [*], by simp [*]⟩ (by simp [*]) (by simp [*]; rfl) ?_) | refine OutOK.run (by simp [*]; rfl) ?_ | refine AW.ret ?_ | refine AW.skip ?_ | refine AW.exit ?_ | refine fin_r ?_ | refine fin_n ?_ | refine AW.block ?_ | refine blockQ_n ?_ | refine blockQ_r ?_ | refine blockQ_e ?_ | refine blockQ_o rfl ?_)
    simp [Try.f25, hz]
  · have hz : Hd (sqT xs l = sqF xs (l - xs.length)) := by simp [Hd, sqT, show ¬ l - (xs.length : Int) < 0 by omega]
    have hn' : ¬ l - (xs.length : Int) < 0 := by omega
    refine ACall.of (N := 27) tok Try.func25 rfl rfl rfl (by simp) ?_
    repeat' (first | with_reducible refine OutOK.done ?_ | refine thenQ_n ?_ | refine thenQ_r ?_ | refine thenQ_e ?_ | refine AW.seq ?_ | refine AW.reg tok (by simp [*]; rfl) ?_ | refine AW.ifB (by simp [*]; rfl) ?_ | refine IfG.t ?_ | refine IfG.f ?_ | (refine IfG.p (fun hg => ?_) (fun hg => ?_) <;> (try (have hg' := hg; simp at hg'))) | (refine IfG.n (fun hg => ?_) (fun hg => ?_) <;> (try (have hg' := hg; simp at hg'))) | (refine OutOK.gateP (fun hg => ?_) (fun hg => ?_) <;> (try (have hg' := hg; simp at hg'))) | (refine OutOK.gateN (fun hg => ?_) (fun hg => ?_) <;> (try (have hg' := hg; simp at hg'))) | (refine IfG.g (fun hg => ?_) (fun hg => ?_) <;> (try (have hg' := hg; simp at hg'))) | (refine OutOK.gate (fun hg => ?_) (fun hg => ?_) <;> (try (have hg' := hg; simp at hg'))) | (refine OutOK.callF [] (by simp [*]; rfl) (by simp [*]; rfl) (by simp [*]; rfl) hb82 (by apply c_laws_szStep <;> first | assumption | exact Hd.out (by assumption) | ((try (clear e0)); (try (clear e1)); (try (clear e2)); (try (clear e3)); (try (clear e4)); (try (clear e5)); (try (clear e6)); (try (clear e7)); (try (clear e8)); (try (clear e9)); (try (clear e10)); (try (clear e11)); omega)) ⟨by simp [*], by simp [*], by simp [*], by simp [*], by simp [*]⟩ (by simp [*]) (by simp [*]; rfl) ?_) | refine OutOK.run (by simp [*]; rfl) ?_ | refine AW.ret ?_ | refine AW.skip ?_ | refine AW.exit ?_ | refine fin_r ?_ | refine fin_n ?_ | refine AW.block ?_ | refine blockQ_n ?_ | refine blockQ_r ?_ | refine blockQ_e ?_ | refine blockQ_o rfl ?_)
    refine AW.loopL (α := Nat × Int) (fun p => p.1 ≤ xs.length ∧ sqF (xs.drop p.1) p.2 = sqT xs l ∧ 0 ≤ p.2 ∧ p.2 ≤ 1048576) (fun p => [(0, .c (.sl true 4 (stps xs))), (1, .c (.sc (.int .i64 p.2))), (5, .c (.sc (.int .i64 (p.1 : Int))))]) (fun _ => []) (fun p => xs.length - p.1) (0, l - xs.length) ⟨Nat.zero_le _, by simp [hz.out], hn, by simp; omega⟩ ⟨by simp, by simp, by simp⟩ ?_
    rintro ⟨i, k⟩ ⟨hi, hs, hk0, hk1⟩
    simp only at hi hs hk0 hk1
    rcases Nat.lt_or_ge i xs.length with hl | hl
    · have e2 : wrap64 ((i : Int) + 1) = (i : Int) + 1 := w64 (by clear e1; omega) (by clear e1; omega)
      have hsz := hh xs[i] (List.getElem_mem hl)
      have hd := List.drop_eq_getElem_cons hl
      rw [hd] at hs
      replace hs : Hd _ := hs
      have ck := c_laws_szStep xs[i] k hsz hk0 hk1
      clear hd hh hz
      rcases Int.lt_or_le (k - xs[i].hol.size) 0 with hc | hc
      · rw [if_pos hc] at ck
        have hs' := hs.out
        simp only [sqF, if_pos hc] at hs'
        replace hs' : Hd _ := hs'
        clear hs
        repeat' (first | with_reducible refine OutOK.done ?_ | refine thenQ_n ?_ | refine thenQ_r ?_ | refine thenQ_e ?_ | refine AW.seq ?_ | refine AW.reg tok (by simp [*]; rfl) ?_ | refine AW.ifB (by simp [*]; rfl) ?_ | refine IfG.t ?_ | refine IfG.f ?_ | (refine IfG.p (fun hg => ?_) (fun hg => ?_) <;> (try (have hg' := hg; simp at hg'))) | (refine IfG.n (fun hg => ?_) (fun hg => ?_) <;> (try (have hg' := hg; simp at hg'))) | (refine OutOK.gateP (fun hg => ?_) (fun hg => ?_) <;> (try (have hg' := hg; simp at hg'))) | (refine OutOK.gateN (fun hg => ?_) (fun hg => ?_) <;> (try (have hg' := hg; simp at hg'))) | (refine IfG.g (fun hg => ?_) (fun hg => ?_) <;> (try (have hg' := hg; simp at hg'))) | (refine OutOK.gate (fun hg => ?_) (fun hg => ?_) <;> (try (have hg' := hg; simp at hg'))) | (refine OutOK.callF [] (by simp [*]; rfl) (by simp [*]; rfl) (by simp [*]; rfl) hb82 (by apply ck <;> first | assumption | exact Hd.out (by assumption) | ((try (clear e0)); (try (clear e1)); (try (clear e2)); (try (clear e3)); (try (clear e4)); (try (clear e5)); (try (clear e6)); (try (clear e7)); (try (clear e8)); (try (clear e9)); (try (clear e10)); (try (clear e11)); omega)) ⟨by simp [*], by simp [*], by simp [*], by simp [*], by simp [*]⟩ (by simp [*]) (by simp [*]; rfl) ?_) | refine OutOK.run (by simp [*]; rfl) ?_ | refine AW.ret ?_ | refine AW.skip ?_ | refine AW.exit ?_ | refine fin_r ?_ | refine fin_n ?_ | refine AW.block ?_ | refine blockQ_n ?_ | refine blockQ_r ?_ | refine blockQ_e ?_ | refine blockQ_o rfl ?_)
        simp [Try.f25, ← hs'.out]
      · have hc' : ¬ k - (xs[i].hol.size : Int) < 0 := by clear e1 e2; omega
        rw [if_neg hc'] at ck
        have hs' := hs.out
        simp only [sqF, if_neg hc'] at hs'
        replace hs' : Hd _ := hs'
        repeat' (first | with_reducible refine OutOK.done ?_ | refine thenQ_n ?_ | refine thenQ_r ?_ | refine thenQ_e ?_ | refine AW.seq ?_ | refine AW.reg tok (by simp [*]; rfl) ?_ | refine AW.ifB (by simp [*]; rfl) ?_ | refine IfG.t ?_ | refine IfG.f ?_ | (refine IfG.p (fun hg => ?_) (fun hg => ?_) <;> (try (have hg' := hg; simp at hg'))) | (refine IfG.n (fun hg => ?_) (fun hg => ?_) <;> (try (have hg' := hg; simp at hg'))) | (refine OutOK.gateP (fun hg => ?_) (fun hg => ?_) <;> (try (have hg' := hg; simp at hg'))) | (refine OutOK.gateN (fun hg => ?_) (fun hg => ?_) <;> (try (have hg' := hg; simp at hg'))) | (refine IfG.g (fun hg => ?_) (fun hg => ?_) <;> (try (have hg' := hg; simp at hg'))) | (refine OutOK.gate (fun hg => ?_) (fun hg => ?_) <;> (try (have hg' := hg; simp at hg'))) | (refine OutOK.callF [] (by simp [*]; rfl) (by simp [*]; rfl) (by simp [*]; rfl) hb82 (by apply ck <;> first | assumption | exact Hd.out (by assumption) | ((try (clear e0)); (try (clear e1)); (try (clear e2)); (try (clear e3)); (try (clear e4)); (try (clear e5)); (try (clear e6)); (try (clear e7)); (try (clear e8)); (try (clear e9)); (try (clear e10)); (try (clear e11)); omega)) ⟨by simp [*], by simp [*], by simp [*], by simp [*], by simp [*]⟩ (by simp [*]) (by simp [*]; rfl) ?_) | refine OutOK.run (by simp [*]; rfl) ?_ | refine AW.ret ?_ | refine AW.skip ?_ | refine AW.exit ?_ | refine fin_r ?_ | refine fin_n ?_ | refine AW.block ?_ | refine blockQ_n ?_ | refine blockQ_r ?_ | refine blockQ_e ?_ | refine blockQ_o rfl ?_)
        refine ⟨(i + 1, k - xs[i].hol.size), ⟨by clear e1 e2; omega, hs'.out, hc, by clear e1 e2; simp only; omega⟩, ⟨by simp [e2], by simp, by simp⟩, by clear e1 e2; simp only; omega⟩
    · have hx : i = xs.length := by clear e1; omega
      subst hx
      simp [sqF] at hs
      clear hz hl hi
      replace hs : Hd _ := hs
      repeat' (first | with_reducible refine OutOK.done ?_ | refine thenQ_n ?_ | refine thenQ_r ?_ | refine thenQ_e ?_ | refine AW.seq ?_ | refine AW.reg tok (by simp [*]; rfl) ?_ | refine AW.ifB (by simp [*]; rfl) ?_ | refine IfG.t ?_ | refine IfG.f ?_ | (refine IfG.p (fun hg => ?_) (fun hg => ?_) <;> (try (have hg' := hg; simp at hg'))) | (refine IfG.n (fun hg => ?_) (fun hg => ?_) <;> (try (have hg' := hg; simp at hg'))) | (refine OutOK.gateP (fun hg => ?_) (fun hg => ?_) <;> (try (have hg' := hg; simp at hg'))) | (refine OutOK.gateN (fun hg => ?_) (fun hg => ?_) <;> (try (have hg' := hg; simp at hg'))) | (refine IfG.g (fun hg => ?_) (fun hg => ?_) <;> (try (have hg' := hg; simp at hg'))) | (refine OutOK.gate (fun hg => ?_) (fun hg => ?_) <;> (try (have hg' := hg; simp at hg'))) | (refine OutOK.callF [] (by simp [*]; rfl) (by simp [*]; rfl) (by simp [*]; rfl) hb82 (by apply c_laws_szStep <;> first | assumption | exact Hd.out (by assumption) | ((try (clear e0)); (try (clear e1)); (try (clear e2)); (try (clear e3)); (try (clear e4)); (try (clear e5)); (try (clear e6)); (try (clear e7)); (try (clear e8)); (try (clear e9)); (try (clear e10)); (try (clear e11)); omega)) ⟨by simp [*], by simp [*], by simp [*], by simp [*], by simp [*]⟩ (by simp [*]) (by simp [*]; rfl) ?_) | refine OutOK.run (by simp [*]; rfl) ?_ | refine AW.ret ?_ | refine AW.skip ?_ | refine AW.exit ?_ | refine fin_r ?_ | refine fin_n ?_ | refine AW.block ?_ | refine blockQ_n ?_ | refine blockQ_r ?_ | refine blockQ_e ?_ | refine blockQ_o rfl ?_)
      simp [Try.f25, hs.out]
def zT : Stp := ⟨0, 0, 0, ⟨#[]⟩⟩
@[simp] theorem rep_stps (n : Nat) : List.replicate n (PV.ag [.sc (.int .i64 0), .sc (.int .i64 0), .sc (.int .i64 0), .sc (.string ⟨#[]⟩)]) = stps (List.replicate n zT) := by simp [stps, els, zT]
theorem c_laws_toStepS (xs : List Stp) (h : xs.length ≤ 1048576) : ACall Try.prog 27 [.v (.sl true 4 (stps xs))] [.x] [.v (.sl false 4 (stps xs))] := by
  have h1 : (xs.length : Int) * 40 ≤ 140737488355328 := by omega
  have h2 : (xs.length : Int) ≤ 4611686018427387904 := by omega
  refine ACall.of (N := 23) tok Try.func27 rfl rfl rfl (by simp) ?_
  repeat' (first | with_reducible refine OutOK.done ?_ | refine thenQ_n ?_ | refine thenQ_r ?_ | refine thenQ_e ?_ | refine AW.seq ?_ | refine AW.reg tok (by simp [*]; rfl) ?_ | refine AW.ifB (by simp [*]; rfl) ?_ | refine IfG.t ?_ | refine IfG.f ?_ | (refine IfG.p (fun hg => ?_) (fun hg => ?_) <;> (try (have hg' := hg; simp at hg'))) | (refine IfG.n (fun hg => ?_) (fun hg => ?_) <;> (try (have hg' := hg; simp at hg'))) | (refine OutOK.gateP (fun hg => ?_) (fun hg => ?_) <;> (try (have hg' := hg; simp at hg'))) | (refine OutOK.gateN (fun hg => ?_) (fun hg => ?_) <;> (try (have hg' := hg; simp at hg'))) | (refine IfG.g (fun hg => ?_) (fun hg => ?_) <;> (try (have hg' := hg; simp at hg'))) | (refine OutOK.gate (fun hg => ?_) (fun hg => ?_) <;> (try (have hg' := hg; simp at hg'))) | (refine OutOK.callF [] (by simp [*]; rfl) (by simp [*]; rfl) (by simp [*]; rfl) hb84 (by apply c_laws_toStep <;> first | assumption | exact Hd.out (by assumption) | ((try (clear e0)); (try (clear e1)); (try (clear e2)); (try (clear e3)); (try (clear e4)); (try (clear e5)); (try (clear e6)); (try (clear e7)); (try (clear e8)); (try (clear e9)); (try (clear e10)); (try (clear e11)); omega)) ⟨by simp [*], by simp [*], by simp [*], by simp [*], by simp [*]⟩ (by simp [*]) (by simp [*]; rfl) ?_) | refine OutOK.run (by simp [*]; rfl) ?_ | refine AW.ret ?_ | refine AW.skip ?_ | refine AW.exit ?_ | refine fin_r ?_ | refine fin_n ?_ | refine AW.block ?_ | refine blockQ_n ?_ | refine blockQ_r ?_ | refine blockQ_e ?_ | refine blockQ_o rfl ?_)
  refine AW.loopL (fun i => i ≤ xs.length) (fun i => [(0, .c (.sl true 4 (stps xs))), (3, .rf 7000 []), (4, .c (.sc (.int .i64 (i : Int))))]) (fun i => [(7000, .sv (.sl false 4 (stps (copied zT xs i))))]) (fun i => xs.length - i) 0 (Nat.zero_le _) ⟨by simp, by simp [copied_zero], by simp⟩ ?_
  intro i hi
  rcases Nat.lt_or_ge i xs.length with hl | hl
  · have e1 : wrap64 ((i : Int) + 1) = (i : Int) + 1 := w64 (by omega) (by omega)
    repeat' (first | with_reducible refine OutOK.done ?_ | refine thenQ_n ?_ | refine thenQ_r ?_ | refine thenQ_e ?_ | refine AW.seq ?_ | refine AW.reg tok (by simp [*]; rfl) ?_ | refine AW.ifB (by simp [*]; rfl) ?_ | refine IfG.t ?_ | refine IfG.f ?_ | (refine IfG.p (fun hg => ?_) (fun hg => ?_) <;> (try (have hg' := hg; simp at hg'))) | (refine IfG.n (fun hg => ?_) (fun hg => ?_) <;> (try (have hg' := hg; simp at hg'))) | (refine OutOK.gateP (fun hg => ?_) (fun hg => ?_) <;> (try (have hg' := hg; simp at hg'))) | (refine OutOK.gateN (fun hg => ?_) (fun hg => ?_) <;> (try (have hg' := hg; simp at hg'))) | (refine IfG.g (fun hg => ?_) (fun hg => ?_) <;> (try (have hg' := hg; simp at hg'))) | (refine OutOK.gate (fun hg => ?_) (fun hg => ?_) <;> (try (have hg' := hg; simp at hg'))) | (refine OutOK.callF [] (by simp [*]; rfl) (by simp [*]; rfl) (by simp [*]; rfl) hb84 (by apply c_laws_toStep <;> first | assumption | exact Hd.out (by assumption) | ((try (clear e0)); (try (clear e1)); (try (clear e2)); (try (clear e3)); (try (clear e4)); (try (clear e5)); (try (clear e6)); (try (clear e7)); (try (clear e8)); (try (clear e9)); (try (clear e10)); (try (clear e11)); omega)) ⟨by simp [*], by simp [*], by simp [*], by simp [*], by simp [*]⟩ (by simp [*]) (by simp [*]; rfl) ?_) | refine OutOK.run (by simp [*]; rfl) ?_ | refine AW.ret ?_ | refine AW.skip ?_ | refine AW.exit ?_ | refine fin_r ?_ | refine fin_n ?_ | refine AW.block ?_ | refine blockQ_n ?_ | refine blockQ_r ?_ | refine blockQ_e ?_ | refine blockQ_o rfl ?_)
    refine ⟨i + 1, by clear e1; omega, ⟨by simp [e1], ?_, by simp⟩, by clear e1; omega⟩
    have := copied_step zT xs i hl
    simp [← this]
  · have hn : ¬ i < xs.length := by omega
    have hc := copied_all zT xs i hl
    repeat' (first | with_reducible refine OutOK.done ?_ | refine thenQ_n ?_ | refine thenQ_r ?_ | refine thenQ_e ?_ | refine AW.seq ?_ | refine AW.reg tok (by simp [*]; rfl) ?_ | refine AW.ifB (by simp [*]; rfl) ?_ | refine IfG.t ?_ | refine IfG.f ?_ | (refine IfG.p (fun hg => ?_) (fun hg => ?_) <;> (try (have hg' := hg; simp at hg'))) | (refine IfG.n (fun hg => ?_) (fun hg => ?_) <;> (try (have hg' := hg; simp at hg'))) | (refine OutOK.gateP (fun hg => ?_) (fun hg => ?_) <;> (try (have hg' := hg; simp at hg'))) | (refine OutOK.gateN (fun hg => ?_) (fun hg => ?_) <;> (try (have hg' := hg; simp at hg'))) | (refine IfG.g (fun hg => ?_) (fun hg => ?_) <;> (try (have hg' := hg; simp at hg'))) | (refine OutOK.gate (fun hg => ?_) (fun hg => ?_) <;> (try (have hg' := hg; simp at hg'))) | (refine OutOK.callF [] (by simp [*]; rfl) (by simp [*]; rfl) (by simp [*]; rfl) hb84 (by apply c_laws_toStep <;> first | assumption | exact Hd.out (by assumption) | ((try (clear e0)); (try (clear e1)); (try (clear e2)); (try (clear e3)); (try (clear e4)); (try (clear e5)); (try (clear e6)); (try (clear e7)); (try (clear e8)); (try (clear e9)); (try (clear e10)); (try (clear e11)); omega)) ⟨by simp [*], by simp [*], by simp [*], by simp [*], by simp [*]⟩ (by simp [*]) (by simp [*]; rfl) ?_) | refine OutOK.run (by simp [*]; rfl) ?_ | refine AW.ret ?_ | refine AW.skip ?_ | refine AW.exit ?_ | refine fin_r ?_ | refine fin_n ?_ | refine AW.block ?_ | refine blockQ_n ?_ | refine blockQ_r ?_ | refine blockQ_e ?_ | refine blockQ_o rfl ?_)
    simp [Try.f27, hc]
theorem c_laws_markStepS (l : List Stp) (k : Nat) (h : l.length ≤ 1048576) (h1 : 0 < k) (h2 : k ≤ 100000000) : ACall Try.prog 31 [.v (.sl false 4 (stps l)), int k] [.x, .x] [int ((k + 4 * l.length : Nat) : Int)] := by
  refine ACall.of (N := 42) tok Try.func31 rfl rfl rfl (by simp) ?_
  repeat' (first | with_reducible refine OutOK.done ?_ | refine thenQ_n ?_ | refine thenQ_r ?_ | refine thenQ_e ?_ | refine AW.seq ?_ | refine AW.reg tok (by simp [*]; rfl) ?_ | refine AW.ifB (by simp [*]; rfl) ?_ | refine IfG.t ?_ | refine IfG.f ?_ | (refine IfG.p (fun hg => ?_) (fun hg => ?_) <;> (try (have hg' := hg; simp at hg'))) | (refine IfG.n (fun hg => ?_) (fun hg => ?_) <;> (try (have hg' := hg; simp at hg'))) | (refine OutOK.gateP (fun hg => ?_) (fun hg => ?_) <;> (try (have hg' := hg; simp at hg'))) | (refine OutOK.gateN (fun hg => ?_) (fun hg => ?_) <;> (try (have hg' := hg; simp at hg'))) | (refine IfG.g (fun hg => ?_) (fun hg => ?_) <;> (try (have hg' := hg; simp at hg'))) | (refine OutOK.gate (fun hg => ?_) (fun hg => ?_) <;> (try (have hg' := hg; simp at hg'))) | (refine OutOK.callF [] (by simp [*]; rfl) (by simp [*]; rfl) (by simp [*]; rfl) hb87 (by apply c_laws_markText <;> first | assumption | exact Hd.out (by assumption) | ((try (clear e0)); (try (clear e1)); (try (clear e2)); (try (clear e3)); (try (clear e4)); (try (clear e5)); (try (clear e6)); (try (clear e7)); (try (clear e8)); (try (clear e9)); (try (clear e10)); (try (clear e11)); omega)) ⟨by simp [*], by simp [*], by simp [*], by simp [*], by simp [*]⟩ (by simp [*]) (by simp [*]; rfl) ?_) | refine OutOK.run (by simp [*]; rfl) ?_ | refine AW.ret ?_ | refine AW.skip ?_ | refine AW.exit ?_ | refine fin_r ?_ | refine fin_n ?_ | refine AW.block ?_ | refine blockQ_n ?_ | refine blockQ_r ?_ | refine blockQ_e ?_ | refine blockQ_o rfl ?_)
  refine AW.loopL (α := Nat × List Stp) (fun q => q.1 ≤ l.length ∧ Hd (q.2.length = l.length)) (fun q => [(0, .rf 100000000 []), (1, .c (.sc (.int .i64 ((k + 4 * q.1 : Nat) : Int)))), (5, .c (.sc (.int .i64 (q.1 : Int))))]) (fun q => [(100000000, .sv (.sl false 4 (stps q.2)))]) (fun q => l.length - q.1) (0, l) ⟨Nat.zero_le _, rfl⟩ ⟨by simp, by simp, by simp⟩ ?_
  rintro ⟨i, m⟩ ⟨hi, hml⟩
  simp only at hi hml
  rcases Nat.lt_or_ge i l.length with hl | hl
  · have hlm : i < m.length := by have := hml.out; omega
    have e1 : wrap64 ((i : Int) + 1) = ((i + 1 : Nat) : Int) := by rw [w64 (by omega) (by omega)]; omega
    obtain ⟨K, hK⟩ : ∃ K, K = k + 4 * i := ⟨_, rfl⟩
    rw [← hK]
    obtain ⟨a, b, c, s, hE, q1, q2, q3, q4, z1, z2⟩ : ∃ a b c s : Nat, Hd (s = K + 4) ∧ wrap64 ((K : Int) + 1) = a ∧ wrap64 ((a : Int) + 1) = b ∧ wrap64 ((b : Int) + 1) = c ∧ wrap64 ((c : Int) + 1) = s ∧ c ≠ 0 ∧ c ≤ 1000000000000 := by
      refine ⟨K + 1, K + 2, K + 3, K + 4, rfl, ?_, ?_, ?_, ?_, by omega, by omega⟩
      all_goals (rw [w64 (by omega) (by omega)]; omega)
    have hK' : Hd (K = k + 4 * i) := hK
    clear hK
    repeat' (first | with_reducible refine OutOK.done ?_ | refine thenQ_n ?_ | refine thenQ_r ?_ | refine thenQ_e ?_ | refine AW.seq ?_ | refine AW.reg tok (by simp [*]; rfl) ?_ | refine AW.ifB (by simp [*]; rfl) ?_ | refine IfG.t ?_ | refine IfG.f ?_ | (refine IfG.p (fun hg => ?_) (fun hg => ?_) <;> (try (have hg' := hg; simp at hg'))) | (refine IfG.n (fun hg => ?_) (fun hg => ?_) <;> (try (have hg' := hg; simp at hg'))) | (refine OutOK.gateP (fun hg => ?_) (fun hg => ?_) <;> (try (have hg' := hg; simp at hg'))) | (refine OutOK.gateN (fun hg => ?_) (fun hg => ?_) <;> (try (have hg' := hg; simp at hg'))) | (refine IfG.g (fun hg => ?_) (fun hg => ?_) <;> (try (have hg' := hg; simp at hg'))) | (refine OutOK.gate (fun hg => ?_) (fun hg => ?_) <;> (try (have hg' := hg; simp at hg'))) | (refine OutOK.callF [] (by simp [*]; rfl) (by simp [*]; rfl) (by simp [*]; rfl) hb87 (by apply c_laws_markText <;> first | assumption | exact Hd.out (by assumption) | ((try (clear e0)); (try (clear e1)); (try (clear e2)); (try (clear e3)); (try (clear e4)); (try (clear e5)); (try (clear e6)); (try (clear e7)); (try (clear e8)); (try (clear e9)); (try (clear e10)); (try (clear e11)); omega)) ⟨by simp [*], by simp [*], by simp [*], by simp [*], by simp [*]⟩ (by simp [*]) (by simp [*]; rfl) ?_) | refine OutOK.run (by simp [*]; rfl) ?_ | refine AW.ret ?_ | refine AW.skip ?_ | refine AW.exit ?_ | refine fin_r ?_ | refine fin_n ?_ | refine AW.block ?_ | refine blockQ_n ?_ | refine blockQ_r ?_ | refine blockQ_e ?_ | refine blockQ_o rfl ?_)
    have r := hE.out
    have hk := hK'.out
    exact ⟨(i + 1, m.set i ⟨K, a, b, ⟨#[109]⟩ ++ figs c ⟨#[]⟩⟩), ⟨hl, by rw [Hd, List.length_set]; exact hml.out⟩, ⟨by simp; clear e1 q1 q2 q3 q4; omega, by simp, by simp⟩, by clear e1 q1 q2 q3 q4; simp only; omega⟩
  · have hn : i = l.length := by omega
    subst hn
    have hlm : ¬ l.length < m.length := by have := hml.out; omega
    have hml' := hml.out
    repeat' (first | with_reducible refine OutOK.done ?_ | refine thenQ_n ?_ | refine thenQ_r ?_ | refine thenQ_e ?_ | refine AW.seq ?_ | refine AW.reg tok (by simp [*]; rfl) ?_ | refine AW.ifB (by simp [*]; rfl) ?_ | refine IfG.t ?_ | refine IfG.f ?_ | (refine IfG.p (fun hg => ?_) (fun hg => ?_) <;> (try (have hg' := hg; simp at hg'))) | (refine IfG.n (fun hg => ?_) (fun hg => ?_) <;> (try (have hg' := hg; simp at hg'))) | (refine OutOK.gateP (fun hg => ?_) (fun hg => ?_) <;> (try (have hg' := hg; simp at hg'))) | (refine OutOK.gateN (fun hg => ?_) (fun hg => ?_) <;> (try (have hg' := hg; simp at hg'))) | (refine IfG.g (fun hg => ?_) (fun hg => ?_) <;> (try (have hg' := hg; simp at hg'))) | (refine OutOK.gate (fun hg => ?_) (fun hg => ?_) <;> (try (have hg' := hg; simp at hg'))) | (refine OutOK.callF [] (by simp [*]; rfl) (by simp [*]; rfl) (by simp [*]; rfl) hb87 (by apply c_laws_markText <;> first | assumption | exact Hd.out (by assumption) | ((try (clear e0)); (try (clear e1)); (try (clear e2)); (try (clear e3)); (try (clear e4)); (try (clear e5)); (try (clear e6)); (try (clear e7)); (try (clear e8)); (try (clear e9)); (try (clear e10)); (try (clear e11)); omega)) ⟨by simp [*], by simp [*], by simp [*], by simp [*], by simp [*]⟩ (by simp [*]) (by simp [*]; rfl) ?_) | refine OutOK.run (by simp [*]; rfl) ?_ | refine AW.ret ?_ | refine AW.skip ?_ | refine AW.exit ?_ | refine fin_r ?_ | refine fin_n ?_ | refine AW.block ?_ | refine blockQ_n ?_ | refine blockQ_r ?_ | refine blockQ_e ?_ | refine blockQ_o rfl ?_)
    simp [Try.f31]
end Go.Proofs.Ytodombkmnnggeaa.EngS


set_option linter.unusedSimpArgs false
set_option linter.unusedVariables false
set_option maxHeartbeats 4000000
set_option maxRecDepth 100000
namespace Go.Proofs.Ytodombkmnnggeaa.EngS
open Go Go.Proofs Go.Eng Go.RowKit
attribute [local irreducible] Go.RowKit.wrap64
abbrev SmpX := Int × Int × Int × Int × Int × Int × Int × ByteArray
def smpX (x : SmpX) : Smp := ⟨x.1, x.2.1, x.2.2.1, x.2.2.2.1, x.2.2.2.2.1, x.2.2.2.2.2.1, x.2.2.2.2.2.2.1, x.2.2.2.2.2.2.2⟩
theorem smps_X (l : List SmpX) : (l.map fun x => PV.ag [PV.sc (.int .i64 x.1), PV.sc (.int .i64 x.2.1), PV.sc (.int .i64 x.2.2.1), PV.sc (.int .i64 x.2.2.2.1), PV.sc (.int .i64 x.2.2.2.2.1), PV.sc (.int .i64 x.2.2.2.2.2.1), PV.sc (.int .i64 x.2.2.2.2.2.2.1), PV.sc (.string x.2.2.2.2.2.2.2)]) = smps (l.map smpX) := by
  rw [smps, els, List.map_map]; rfl
theorem smpX_W {x : SmpX} (h : (Lit.int .i64 x.2.2.2.2.2.2.1).wf = true ∧ x.2.2.2.2.2.2.2.size ≤ maxLen) : SmpW (smpX x) := by
  have hm : maxLen = 9223372036854775807 := rfl
  have h1 : -9223372036854775808 ≤ x.2.2.2.2.2.2.1 ∧ x.2.2.2.2.2.2.1 ≤ 9223372036854775807 := by
    have h0 := h.1
    rw [Lit.wf, Bool.and_eq_true, decide_eq_true_eq, decide_eq_true_eq] at h0
    exact h0
  exact ⟨by have := h.2; simp only [smpX]; omega, h1.1, by simp only [smpX]; omega⟩
abbrev StpX := Int × Int × Int × ByteArray
def stpX (x : StpX) : Stp := ⟨x.1, x.2.1, x.2.2.1, x.2.2.2⟩
theorem stps_X (l : List StpX) : (l.map fun x => PV.ag [PV.sc (.int .i64 x.1), PV.sc (.int .i64 x.2.1), PV.sc (.int .i64 x.2.2.1), PV.sc (.string x.2.2.2)]) = stps (l.map stpX) := by
  rw [stps, els, List.map_map]; rfl
theorem szF_le : ∀ (l : List Smp) (k : Int), 0 ≤ k → szF l k ≤ k
  | [], k, h => Int.le_refl _
  | s :: r, k, h => by
    simp only [szF]
    split
    · omega
    · have := szF_le r (k - s.hol.size) (by omega); omega
theorem szT_le {l : List Smp} {k : Int} (h : 0 ≤ k) : szT l k ≤ k := by
  unfold szT
  split
  · omega
  · have := szF_le l (k - l.length) (by omega); omega
theorem runM_len (l : List Smp) (xs : List Stp) (hh : ∀ s ∈ l, SmpW s) (hs : ∀ s ∈ xs, stpW s) : (runM l xs).length ≤ 16 := by
  unfold runM
  split
  · rename_i h
    simp only [runB, Bool.and_eq_true] at h
    exact (goodS_at (run_good h.1 hh hs).1).1
  · simp
theorem law_FnExactRunSteps (x : List SmpX) (y : List StpX) (hw : x.length ≤ maxLen ∧ ∀ y ∈ x, (Lit.int .i64 y.1).wf = true ∧ (Lit.int .i64 y.2.1).wf = true ∧ (Lit.int .i64 y.2.2.1).wf = true ∧ (Lit.int .i64 y.2.2.2.1).wf = true ∧ (Lit.int .i64 y.2.2.2.2.1).wf = true ∧ (Lit.int .i64 y.2.2.2.2.2.1).wf = true ∧ (Lit.int .i64 y.2.2.2.2.2.2.1).wf = true ∧ y.2.2.2.2.2.2.2.size ≤ maxLen)
  (hy : y.length ≤ maxLen ∧ ∀ z ∈ y, (Lit.int .i64 z.1).wf = true ∧ (Lit.int .i64 z.2.1).wf = true ∧ (Lit.int .i64 z.2.2.1).wf = true ∧ z.2.2.2.size ≤ maxLen) :
  ACall Try.prog 4 [.v (.sl true 8 (x.map fun x => PV.ag [PV.sc (.int .i64 x.1), PV.sc (.int .i64 x.2.1), PV.sc (.int .i64 x.2.2.1), PV.sc (.int .i64 x.2.2.2.1), PV.sc (.int .i64 x.2.2.2.2.1), PV.sc (.int .i64 x.2.2.2.2.2.1), PV.sc (.int .i64 x.2.2.2.2.2.2.1), PV.sc (.string x.2.2.2.2.2.2.2)])), .v (.sl true 4 (y.map fun x => PV.ag [PV.sc (.int .i64 x.1), PV.sc (.int .i64 x.2.1), PV.sc (.int .i64 x.2.2.1), PV.sc (.string x.2.2.2)]))] [.x, .x] [boo true] := by
  rw [smps_X, stps_X]
  have hm : maxLen = 9223372036854775807 := rfl
  have h1 : (x.map smpX).length ≤ 9223372036854775807 := by rw [List.length_map, ← hm]; exact hw.1
  have h2 : (y.map stpX).length ≤ 9223372036854775807 := by rw [List.length_map, ← hm]; exact hy.1
  have hh : ∀ s ∈ x.map smpX, SmpW s := by
    intro s hs
    obtain ⟨y, hy, rfl⟩ := List.mem_map.1 hs
    exact smpX_W ⟨(hw.2 y hy).2.2.2.2.2.2.1, (hw.2 y hy).2.2.2.2.2.2.2⟩
  have hq : ∀ s ∈ y.map stpX, stpW s := by
    intro s hs
    obtain ⟨z, hz, rfl⟩ := List.mem_map.1 hs
    have := (hy.2 z hz).2.2.2
    simp only [stpW, stpX]; omega
  clear hw hy hm
  generalize x.map smpX = l at *
  generalize y.map stpX = xs at *
  have cz := c_laws_szSampleS l 1048576 h1 (fun s hs => (hh s hs).1) (by decide) (by decide)
  have hzl := szT_le (l := l) (k := 1048576) (by decide)
  rcases Int.lt_or_le (szT l 1048576) 0 with hz | hz
  · generalize szT l 1048576 = z at *
    clear hh hq
    refine ACall.of (N := 140) tok Try.func4 rfl rfl rfl (by simp) ?_
    repeat' (first | with_reducible refine OutOK.done ?_ | refine thenQ_n ?_ | refine thenQ_r ?_ | refine thenQ_e ?_ | refine AW.seq ?_ | refine AW.reg tok (by simp [*]; rfl) ?_ | refine AW.ifB (by simp [*]; rfl) ?_ | refine IfG.t ?_ | refine IfG.f ?_ | (refine IfG.p (fun hg => ?_) (fun hg => ?_) <;> (try (have hg' := hg; simp at hg'))) | (refine IfG.n (fun hg => ?_) (fun hg => ?_) <;> (try (have hg' := hg; simp at hg'))) | (refine OutOK.gateP (fun hg => ?_) (fun hg => ?_) <;> (try (have hg' := hg; simp at hg'))) | (refine OutOK.gateN (fun hg => ?_) (fun hg => ?_) <;> (try (have hg' := hg; simp at hg'))) | (refine IfG.g (fun hg => ?_) (fun hg => ?_) <;> (try (have hg' := hg; simp at hg'))) | (refine OutOK.gate (fun hg => ?_) (fun hg => ?_) <;> (try (have hg' := hg; simp at hg'))) | (refine OutOK.callF [] (by simp [*]; rfl) (by simp [*]; rfl) (by simp [*]; rfl) hb24 (by apply cz <;> first | assumption | exact Hd.out (by assumption) | ((try (clear e0)); (try (clear e1)); (try (clear e2)); (try (clear e3)); (try (clear e4)); (try (clear e5)); (try (clear e6)); (try (clear e7)); (try (clear e8)); (try (clear e9)); (try (clear e10)); (try (clear e11)); omega)) ⟨by simp [*], by simp [*], by simp [*], by simp [*], by simp [*]⟩ (by simp [*]) (by simp [*]; rfl) ?_) | refine OutOK.run (by simp [*]; rfl) ?_ | refine AW.ret ?_ | refine AW.skip ?_ | refine AW.exit ?_ | refine fin_r ?_ | refine fin_n ?_ | refine AW.block ?_ | refine blockQ_n ?_ | refine blockQ_r ?_ | refine blockQ_e ?_ | refine blockQ_o rfl ?_)
    all_goals (try simp [*, Try.f4])
  have hs : l.length ≤ 1048576 := by have := szT_len (by omega : ¬ szT l 1048576 < 0); omega
  generalize szT l 1048576 = z at *
  have cq := c_laws_szStepS xs z h2 hq hz hzl
  have hz' : ¬ z < 0 := by omega
  rcases Int.lt_or_le (sqT xs z) 0 with hu | hu
  · generalize sqT xs z = u at *
    clear hh hq hz
    refine ACall.of (N := 140) tok Try.func4 rfl rfl rfl (by simp) ?_
    repeat' (first | with_reducible refine OutOK.done ?_ | refine thenQ_n ?_ | refine thenQ_r ?_ | refine thenQ_e ?_ | refine AW.seq ?_ | refine AW.reg tok (by simp [*]; rfl) ?_ | refine AW.ifB (by simp [*]; rfl) ?_ | refine IfG.t ?_ | refine IfG.f ?_ | (refine IfG.p (fun hg => ?_) (fun hg => ?_) <;> (try (have hg' := hg; simp at hg'))) | (refine IfG.n (fun hg => ?_) (fun hg => ?_) <;> (try (have hg' := hg; simp at hg'))) | (refine OutOK.gateP (fun hg => ?_) (fun hg => ?_) <;> (try (have hg' := hg; simp at hg'))) | (refine OutOK.gateN (fun hg => ?_) (fun hg => ?_) <;> (try (have hg' := hg; simp at hg'))) | (refine IfG.g (fun hg => ?_) (fun hg => ?_) <;> (try (have hg' := hg; simp at hg'))) | (refine OutOK.gate (fun hg => ?_) (fun hg => ?_) <;> (try (have hg' := hg; simp at hg'))) | (refine OutOK.callF [] (by simp [*]; rfl) (by simp [*]; rfl) (by simp [*]; rfl) hb24 (by apply cz <;> first | assumption | exact Hd.out (by assumption) | ((try (clear e0)); (try (clear e1)); (try (clear e2)); (try (clear e3)); (try (clear e4)); (try (clear e5)); (try (clear e6)); (try (clear e7)); (try (clear e8)); (try (clear e9)); (try (clear e10)); (try (clear e11)); omega)) ⟨by simp [*], by simp [*], by simp [*], by simp [*], by simp [*]⟩ (by simp [*]) (by simp [*]; rfl) ?_) | (refine OutOK.callF [] (by simp [*]; rfl) (by simp [*]; rfl) (by simp [*]; rfl) hb25 (by apply cq <;> first | assumption | exact Hd.out (by assumption) | ((try (clear e0)); (try (clear e1)); (try (clear e2)); (try (clear e3)); (try (clear e4)); (try (clear e5)); (try (clear e6)); (try (clear e7)); (try (clear e8)); (try (clear e9)); (try (clear e10)); (try (clear e11)); omega)) ⟨by simp [*], by simp [*], by simp [*], by simp [*], by simp [*]⟩ (by simp [*]) (by simp [*]; rfl) ?_) | refine OutOK.run (by simp [*]; rfl) ?_ | refine AW.ret ?_ | refine AW.skip ?_ | refine AW.exit ?_ | refine fin_r ?_ | refine fin_n ?_ | refine AW.block ?_ | refine blockQ_n ?_ | refine blockQ_r ?_ | refine blockQ_e ?_ | refine blockQ_o rfl ?_)
    all_goals (try simp [*, Try.f4])
  have hxs : xs.length ≤ 1048576 := by have := sqT_len (by omega : ¬ sqT xs z < 0); omega
  generalize sqT xs z = u at *
  have cs := c_spec_RunSteps l xs (by omega) (by omega) hh hq
  have ci := c_impl_RunSteps l xs (by omega) (by omega) hh hq
  have hM := runM_len l xs hh hq
  have ct := c_laws_toSampleS l hs
  have cu := c_laws_toStepS xs hxs
  have ce := c_laws_eqSampleS l (by omega)
  have cf := c_laws_eqStepS xs (by omega)
  generalize runM l xs = M at *
  generalize runN l xs = N at *
  generalize runB l xs = B at *
  have cE := c_laws_eqSampleS M (by omega)
  obtain ⟨k1, hk1⟩ : ∃ k1 : Nat, k1 = 1 + 8 * l.length := ⟨_, rfl⟩
  obtain ⟨k2, hk2⟩ : ∃ k2 : Nat, k2 = k1 + 4 * xs.length := ⟨_, rfl⟩
  obtain ⟨k3, hk3⟩ : ∃ k3 : Nat, k3 = 1 + 8 * M.length := ⟨_, rfl⟩
  have cm : ACall Try.prog 30 [.v (.sl false 8 (smps l)), int 1] [.v (.sl false 8 (smps (mksN 1 l.length))), .x] [int (k1 : Int)] := by
    have := c_laws_markSampleS l 1 hs (by decide) (by decide)
    rwa [← hk1] at this
  have cn : ACall Try.prog 31 [.v (.sl false 4 (stps xs)), int (k1 : Int)] [.x, .x] [int (k2 : Int)] := by
    have := c_laws_markStepS xs k1 hxs (by omega) (by omega)
    rwa [← hk2] at this
  have cM : ACall Try.prog 30 [.v (.sl false 8 (smps M)), int 1] [.v (.sl false 8 (smps (mksN 1 M.length))), .x] [int (k3 : Int)] := by
    have := c_laws_markSampleS M 1 (by omega) (by decide) (by decide)
    rwa [← hk3] at this
  have ch : ACall Try.prog 32 [.v (.sl true 8 (smps (mksN 1 M.length))), int 1] [.x, .x] [int (k3 : Int)] := by
    have := c_laws_heldSampleS M.length 1 (by omega) (by decide) (by decide)
    rwa [← hk3] at this
  generalize mksN 1 M.length = MM at *
  generalize mksN 1 l.length = ML at *
  have hu' : ¬ u < 0 := by omega
  have k2' : ¬ (k2 : Int) < 0 := by omega
  have k3' : ¬ (k3 : Int) < 0 := by omega
  clear hh hq h1 h2 hz hu hk1 hk2 hk3 hzl
  refine ACall.of (N := 140) tok Try.func4 rfl rfl rfl (by simp) ?_
  repeat' (first | with_reducible refine OutOK.done ?_ | refine thenQ_n ?_ | refine thenQ_r ?_ | refine thenQ_e ?_ | refine AW.seq ?_ | refine AW.reg tok (by simp [*]; rfl) ?_ | refine AW.ifB (by simp [*]; rfl) ?_ | refine IfG.t ?_ | refine IfG.f ?_ | (refine IfG.p (fun hg => ?_) (fun hg => ?_) <;> (try (have hg' := hg; simp at hg'))) | (refine IfG.n (fun hg => ?_) (fun hg => ?_) <;> (try (have hg' := hg; simp at hg'))) | (refine OutOK.gateP (fun hg => ?_) (fun hg => ?_) <;> (try (have hg' := hg; simp at hg'))) | (refine OutOK.gateN (fun hg => ?_) (fun hg => ?_) <;> (try (have hg' := hg; simp at hg'))) | (refine IfG.g (fun hg => ?_) (fun hg => ?_) <;> (try (have hg' := hg; simp at hg'))) | (refine OutOK.gate (fun hg => ?_) (fun hg => ?_) <;> (try (have hg' := hg; simp at hg'))) | (refine OutOK.callF [] (by simp [*]; rfl) (by simp [*]; rfl) (by simp [*]; rfl) hb24 (by apply cz <;> first | assumption | exact Hd.out (by assumption) | ((try (clear e0)); (try (clear e1)); (try (clear e2)); (try (clear e3)); (try (clear e4)); (try (clear e5)); (try (clear e6)); (try (clear e7)); (try (clear e8)); (try (clear e9)); (try (clear e10)); (try (clear e11)); omega)) ⟨by simp [*], by simp [*], by simp [*], by simp [*], by simp [*]⟩ (by simp [*]) (by simp [*]; rfl) ?_) | (refine OutOK.callF [] (by simp [*]; rfl) (by simp [*]; rfl) (by simp [*]; rfl) hb25 (by apply cq <;> first | assumption | exact Hd.out (by assumption) | ((try (clear e0)); (try (clear e1)); (try (clear e2)); (try (clear e3)); (try (clear e4)); (try (clear e5)); (try (clear e6)); (try (clear e7)); (try (clear e8)); (try (clear e9)); (try (clear e10)); (try (clear e11)); omega)) ⟨by simp [*], by simp [*], by simp [*], by simp [*], by simp [*]⟩ (by simp [*]) (by simp [*]; rfl) ?_) | (refine OutOK.callF [] (by simp [*]; rfl) (by simp [*]; rfl) (by simp [*]; rfl) hb18 (by apply cs <;> first | assumption | exact Hd.out (by assumption) | ((try (clear e0)); (try (clear e1)); (try (clear e2)); (try (clear e3)); (try (clear e4)); (try (clear e5)); (try (clear e6)); (try (clear e7)); (try (clear e8)); (try (clear e9)); (try (clear e10)); (try (clear e11)); omega)) ⟨by simp [*], by simp [*], by simp [*], by simp [*], by simp [*]⟩ (by simp [*]) (by simp [*]; rfl) ?_) | (refine OutOK.callF [] (by simp [*]; rfl) (by simp [*]; rfl) (by simp [*]; rfl) hb17 (by apply ci <;> first | assumption | exact Hd.out (by assumption) | ((try (clear e0)); (try (clear e1)); (try (clear e2)); (try (clear e3)); (try (clear e4)); (try (clear e5)); (try (clear e6)); (try (clear e7)); (try (clear e8)); (try (clear e9)); (try (clear e10)); (try (clear e11)); omega)) ⟨by simp [*], by simp [*], by simp [*], by simp [*], by simp [*]⟩ (by simp [*]) (by simp [*]; rfl) ?_) | (refine OutOK.callF [] (by simp [*]; rfl) (by simp [*]; rfl) (by simp [*]; rfl) hb26 (by apply ct <;> first | assumption | exact Hd.out (by assumption) | ((try (clear e0)); (try (clear e1)); (try (clear e2)); (try (clear e3)); (try (clear e4)); (try (clear e5)); (try (clear e6)); (try (clear e7)); (try (clear e8)); (try (clear e9)); (try (clear e10)); (try (clear e11)); omega)) ⟨by simp [*], by simp [*], by simp [*], by simp [*], by simp [*]⟩ (by simp [*]) (by simp [*]; rfl) ?_) | (refine OutOK.callF [] (by simp [*]; rfl) (by simp [*]; rfl) (by simp [*]; rfl) hb27 (by apply cu <;> first | assumption | exact Hd.out (by assumption) | ((try (clear e0)); (try (clear e1)); (try (clear e2)); (try (clear e3)); (try (clear e4)); (try (clear e5)); (try (clear e6)); (try (clear e7)); (try (clear e8)); (try (clear e9)); (try (clear e10)); (try (clear e11)); omega)) ⟨by simp [*], by simp [*], by simp [*], by simp [*], by simp [*]⟩ (by simp [*]) (by simp [*]; rfl) ?_) | (refine OutOK.callF [] (by simp [*]; rfl) (by simp [*]; rfl) (by simp [*]; rfl) hb28 (by apply ce <;> first | assumption | exact Hd.out (by assumption) | ((try (clear e0)); (try (clear e1)); (try (clear e2)); (try (clear e3)); (try (clear e4)); (try (clear e5)); (try (clear e6)); (try (clear e7)); (try (clear e8)); (try (clear e9)); (try (clear e10)); (try (clear e11)); omega)) ⟨by simp [*], by simp [*], by simp [*], by simp [*], by simp [*]⟩ (by simp [*]) (by simp [*]; rfl) ?_) | (refine OutOK.callF [] (by simp [*]; rfl) (by simp [*]; rfl) (by simp [*]; rfl) hb28 (by apply cE <;> first | assumption | exact Hd.out (by assumption) | ((try (clear e0)); (try (clear e1)); (try (clear e2)); (try (clear e3)); (try (clear e4)); (try (clear e5)); (try (clear e6)); (try (clear e7)); (try (clear e8)); (try (clear e9)); (try (clear e10)); (try (clear e11)); omega)) ⟨by simp [*], by simp [*], by simp [*], by simp [*], by simp [*]⟩ (by simp [*]) (by simp [*]; rfl) ?_) | (refine OutOK.callF [] (by simp [*]; rfl) (by simp [*]; rfl) (by simp [*]; rfl) hb29 (by apply cf <;> first | assumption | exact Hd.out (by assumption) | ((try (clear e0)); (try (clear e1)); (try (clear e2)); (try (clear e3)); (try (clear e4)); (try (clear e5)); (try (clear e6)); (try (clear e7)); (try (clear e8)); (try (clear e9)); (try (clear e10)); (try (clear e11)); omega)) ⟨by simp [*], by simp [*], by simp [*], by simp [*], by simp [*]⟩ (by simp [*]) (by simp [*]; rfl) ?_) | (refine OutOK.callF [true] (by simp [*]; rfl) (by simp [*]; rfl) (by simp [*]; rfl) hb30 (by apply cm <;> first | assumption | exact Hd.out (by assumption) | ((try (clear e0)); (try (clear e1)); (try (clear e2)); (try (clear e3)); (try (clear e4)); (try (clear e5)); (try (clear e6)); (try (clear e7)); (try (clear e8)); (try (clear e9)); (try (clear e10)); (try (clear e11)); omega)) ⟨by simp [*], by simp [*], by simp [*], by simp [*], by simp [*]⟩ (by simp [*]) (by simp [*]; rfl) ?_) | (refine OutOK.callF [true] (by simp [*]; rfl) (by simp [*]; rfl) (by simp [*]; rfl) hb30 (by apply cM <;> first | assumption | exact Hd.out (by assumption) | ((try (clear e0)); (try (clear e1)); (try (clear e2)); (try (clear e3)); (try (clear e4)); (try (clear e5)); (try (clear e6)); (try (clear e7)); (try (clear e8)); (try (clear e9)); (try (clear e10)); (try (clear e11)); omega)) ⟨by simp [*], by simp [*], by simp [*], by simp [*], by simp [*]⟩ (by simp [*]) (by simp [*]; rfl) ?_) | (refine OutOK.callF [true] (by simp [*]; rfl) (by simp [*]; rfl) (by simp [*]; rfl) hb31 (by apply cn <;> first | assumption | exact Hd.out (by assumption) | ((try (clear e0)); (try (clear e1)); (try (clear e2)); (try (clear e3)); (try (clear e4)); (try (clear e5)); (try (clear e6)); (try (clear e7)); (try (clear e8)); (try (clear e9)); (try (clear e10)); (try (clear e11)); omega)) ⟨by simp [*], by simp [*], by simp [*], by simp [*], by simp [*]⟩ (by simp [*]) (by simp [*]; rfl) ?_) | (refine OutOK.callF [] (by simp [*]; rfl) (by simp [*]; rfl) (by simp [*]; rfl) hb32 (by apply ch <;> first | assumption | exact Hd.out (by assumption) | ((try (clear e0)); (try (clear e1)); (try (clear e2)); (try (clear e3)); (try (clear e4)); (try (clear e5)); (try (clear e6)); (try (clear e7)); (try (clear e8)); (try (clear e9)); (try (clear e10)); (try (clear e11)); omega)) ⟨by simp [*], by simp [*], by simp [*], by simp [*], by simp [*]⟩ (by simp [*]) (by simp [*]; rfl) ?_) | refine OutOK.run (by simp [*]; rfl) ?_ | refine AW.ret ?_ | refine AW.skip ?_ | refine AW.exit ?_ | refine fin_r ?_ | refine fin_n ?_ | refine AW.block ?_ | refine blockQ_n ?_ | refine blockQ_r ?_ | refine blockQ_e ?_ | refine blockQ_o rfl ?_)
  all_goals (try simp [*, Try.f4])
end Go.Proofs.Ytodombkmnnggeaa.EngS

